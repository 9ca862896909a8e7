/- sys: the run's block. -/
import Derived.Test.YtpdphobnchajbaaGreatDoorQ40
import Derived.Test.YtpdphobnchajbaaGreatDoorQ39
import Derived.Test.YtpdphobnchajbaaGreatDoorQ26
import Derived.Test.YtpdphobnchajbaaGreatDoorQ37
set_option linter.unusedSimpArgs false
set_option linter.unusedVariables false
namespace Go.Proofs.YtpdphobnchajbaaGreatDoor.Ev
open Go Go.RowKit
set_option maxRecDepth 100000
set_option maxHeartbeats 16000000
def eQ(w:Wo)(vc vk:A)(s:Sy)(vn vm vd:A):List A:=cW w++(iB vc vk s vn++[vm,vd])
def thr(w:Wo)(k:Nat):List Pl.Ins:=(w.P.threads[k]?).getD []
theorem eJ{α:Type}{l:List α}{n:Nat}{a:α}(h:l[n]?=some a):List.drop n l=a::List.drop (n+1) l:=by
 obtain⟨hn,rfl⟩:=List.getElem?_eq_some_iff.1 h
 exact List.drop_eq_getElem_cons hn
theorem lU(w:Wo)(vc vk:A)(s:Sy)(vn vm vd:A):∃ c0 c1 c2 c3 c4,eQ w vc vk s vn vm vd=[Sv w.P.name,.sl w.P.locs.length (w.P.locs.map Sv),.sl w.P.init.length (w.P.init.map fun n=>I8 n),.sl w.P.threads.length (w.P.threads.map fun l=>eY l),I8 w.P.ask,c0,c1,c2,c3,c4,I64 w.c,I64 w.h,I64 w.o,I64 w.s,I64 w.y,I8 w.net,I8 w.view,I8 w.repl,I64 w.buf,Bo w.evict]++(cT9 w.T++(vc::vk::(s.dirs++[vn,vm,vd]))):=by
 obtain⟨c0,c1,c2,c3,c4,hc⟩:=jU w.P
 refine⟨c0,c1,c2,c3,c4,?_⟩
 unfold eQ cW cPg Pg.low Wo.gr iB
 rw[hc]
 simp only[List.cons_append,List.nil_append,List.append_assoc]
section
variable{w:Wo}{vc vk:A}{s:Sy}{vn vm vd:A}
theorem F5:s.dirs.length=66:=rfl
theorem uQ(ok:w.T.Ok)(n:Nat):(eQ w vc vk s vn vm vd)[585+n]?=(vc::vk::(s.dirs++[vn,vm,vd]))[n]?:=by
 obtain⟨c0,c1,c2,c3,c4,e⟩:=lU w vc vk s vn vm vd
 have hl:=d7 ok
 rw[e,List.getElem?_append_right (by simp;omega),List.getElem?_append_right (by simp;omega)]
 congr 1
 simp only[List.length_cons,List.length_nil,hl]
 omega
theorem r3:List.drop 3 (eQ w vc vk s vn vm vd)=.sl w.P.threads.length (w.P.threads.map fun l=>eY l)::List.drop 4 (eQ w vc vk s vn vm vd):=by
 obtain⟨c0,c1,c2,c3,c4,e⟩:=lU w vc vk s vn vm vd
 exact eJ (by rw[e];rfl)
theorem r10:List.drop 10 (eQ w vc vk s vn vm vd)=I64 w.c::I64 w.h::I64 w.o::I64 w.s::I64 w.y::List.drop 15 (eQ w vc vk s vn vm vd):=by
 obtain⟨c0,c1,c2,c3,c4,e⟩:=lU w vc vk s vn vm vd
 rw[e]
 rfl
theorem r15:List.drop 15 (eQ w vc vk s vn vm vd)=I8 w.net::I8 w.view::I8 w.repl::I64 w.buf::Bo w.evict::List.drop 20 (eQ w vc vk s vn vm vd):=by
 obtain⟨c0,c1,c2,c3,c4,e⟩:=lU w vc vk s vn vm vd
 rw[e]
 rfl
theorem r19:List.drop 19 (eQ w vc vk s vn vm vd)=Bo w.evict::List.drop 20 (eQ w vc vk s vn vm vd):=by
 obtain⟨c0,c1,c2,c3,c4,e⟩:=lU w vc vk s vn vm vd
 exact eJ (by rw[e];rfl)
theorem r20(ok:w.T.Ok):List.drop 20 (eQ w vc vk s vn vm vd)=cT9 w.T++List.drop 585 (eQ w vc vk s vn vm vd):=by
 obtain⟨c0,c1,c2,c3,c4,e⟩:=lU w vc vk s vn vm vd
 have hl:=d7 ok
 rw[e,show(585:Nat)=20+565 from rfl,← List.drop_drop]
 show cT9 w.T++_=cT9 w.T++List.drop 565 (cT9 w.T++_)
 rw[List.drop_left' hl]
theorem fT(ok:w.T.Ok):List.drop 585 (eQ w vc vk s vn vm vd)=vc::List.drop 586 (eQ w vc vk s vn vm vd):=eJ (uQ ok 0)
theorem eX(ok:w.T.Ok):List.drop 586 (eQ w vc vk s vn vm vd)=vk::List.drop 587 (eQ w vc vk s vn vm vd):=eJ (uQ ok 1)
theorem pI(ok:w.T.Ok):List.drop 653 (eQ w vc vk s vn vm vd)=vn::List.drop 654 (eQ w vc vk s vn vm vd):=eJ (uQ ok 68)
theorem mF(ok:w.T.Ok):List.drop 654 (eQ w vc vk s vn vm vd)=vm::List.drop 655 (eQ w vc vk s vn vm vd):=eJ (uQ ok 69)
theorem lH(ok:w.T.Ok):List.drop 655 (eQ w vc vk s vn vm vd)=vd::List.drop 656 (eQ w vc vk s vn vm vd):=eJ (uQ ok 70)
theorem tV(ok:w.T.Ok):(eQ w vc vk s vn vm vd).length=656:=by
 obtain⟨c0,c1,c2,c3,c4,e⟩:=lU w vc vk s vn vm vd
 rw[e,List.length_append,List.length_append,d7 ok]
 rfl
theorem bC5(ok:w.T.Ok){i:Nat}(hi:i<6):∃ r,List.drop (587+i*11) (eQ w vc vk s vn vm vd)=cD (s.homes i)++r:=by
 obtain⟨c0,c1,c2,c3,c4,e⟩:=lU w vc vk s vn vm vd
 have hl:=d7 ok
 have h:∀ n,List.drop (587+n) (eQ w vc vk s vn vm vd)=List.drop n (s.dirs++[vn,vm,vd]):=fun n=>by
  rw[e,show 587+n=20+(565+(2+n))by omega,← List.drop_drop]
  show List.drop (565+(2+n)) (cT9 w.T++_)=_
  rw[← List.drop_drop,List.drop_left' hl,← List.drop_drop]
  rfl
 rw[h]
 obtain rfl|rfl|rfl|rfl|rfl|rfl:i=0∨i=1∨i=2∨i=3∨i=4∨i=5:=by omega
 all_goals exact⟨_,rfl⟩
end
theorem tkT(t:Tl)(ok:t.Ok)(X:List A):List.take 565 (cT9 t++X)=cT9 t:=List.take_left' (d7 ok)
attribute [irreducible] eQ
theorem a0a{w:Wo}{k:Nat}(hk:k<w.P.threads.length):List.drop k (w.P.threads.map fun l=>eY l)=eY (thr w k)::List.drop (k+1) (w.P.threads.map fun l=>eY l):=by
 refine eJ ?_
 rw[List.getElem?_map]
 unfold thr
 rw[List.getElem?_eq_getElem hk]
 rfl
theorem vZ{w:Wo}{H:aG}{b:Nat}{vc vk:A}{s:Sy}{vn vm vd:A}(hb:H[b]?=some (some ⟨127,eQ w vc vk s vn vm vd,true⟩))(ok:w.P.threads.length≤4)(k:Nat)(hk:k<4) :
  bW Cx 106 [.ptr b 0,I64 k] H fun y K=>aKN y (thr w k)∧K=H:=by
 rw[aP aPk a3k];refine⟨by simp[KF],?_⟩
 by_cases h:k<w.P.threads.length
 ·have ht:=a0a h
  simp(disch:=omega)only[go_sem,simprocAttr,hb,r3,ht,Nat.mul_one,aE]
  exact .inr rfl
 ·have hn:thr w k=[]:=by
   unfold thr
   rw[List.getElem?_eq_none (by omega)]
   rfl
  simp(disch:=omega)only[go_sem,simprocAttr,hb,r3,aE]
  exact .inl ⟨hn,rfl⟩
def lO{α:Type}(ow:Bool)(el:TypeId)(sz:Nat)(c:α→List A)(H:aG)(v:A)(l:List α):Prop :=
 bif ow then ∃ j,v=.ref j 0 l.length sz∧H[j]?=some (some ⟨el,cells c l,false⟩)else v=.sl l.length (cells c l)
def sE(rb:Nat):List A:=[I8 1,.clo 58 [.ptr rb 0] [],I8 2,.clo 59 [.ptr rb 0] [],I8 3,.clo 60 [.ptr rb 0] [],I8 4,.clo 61 [.ptr rb 0] [],I8 5,.clo 62 [.ptr rb 0] []]
def AP(H:aG)(v:A)(l:List Pf):Prop:=(l=[]∧v=.v (.slice none 0 0))∨∃ j,l≠[]∧v=.ref j 0 l.length 7∧H[j]?=some (some ⟨211,cells cP l,false⟩)
class Kst where
 q:Nat
 cz:List A
structure Rn[Kst](ow:Bool)(w:Wo)(s:Sy)(rb mb:Nat)(vc vk vd:A)(done:List Pf)(H:aG):Prop where
 at_:H[rb]?=some (some ⟨127,eQ w vc vk s (.sl s.net.length (cells cM s.net)) (.mp mb) vd,true⟩)
 kinds:H[mb]?=some (some ⟨125,sE rb,true⟩)
 rc:lO ow 99 12 cK H vc s.cores
 rk:lO ow 123 160 cC H vk s.caches
 dn:AP H vd done
 kq:H[Kst.q]?=some (some ⟨58,Kst.cz,true⟩)
section
variable{ow:Bool}{w:Wo}{s:Sy}{rb mb:Nat}{vc vk vd:A}{done:List Pf}{H:aG}
theorem lO.app{α:Type}{el:TypeId}{sz:Nat}{c:α→List A}{v:A}{l:List α}(h:lO ow el sz c H v l)(t:aG):lO ow el sz c (H++t) v l:=by
 unfold lO at h ⊢
 cases ow with
 |true =>
  obtain⟨j,h1,h2⟩:=h
  exact⟨j,h1,aI h2 t⟩
 |false=>exact h
theorem Rn.app[Kst](h:Rn ow w s rb mb vc vk vd done H)(t:aG):Rn ow w s rb mb vc vk vd done (H++t) :=
 ⟨aI h.at_ t,aI h.kinds t,h.rc.app t,h.rk.app t,h.dn.elim .inl fun⟨j,h0,h1,h2⟩=>.inr ⟨j,h0,h1,aI h2 t⟩,aI h.kq t⟩
theorem vH(l:List Pl.Core):(cells cK l).length=l.length*12:=eE cK 12 (fun _=>rfl) l
theorem xK(l:List Ca):(cells cC l).length=l.length*160:=eE cC 160 aY l
theorem c8{α:Type}{c:α→List A}{n:Nat}(hn:∀ x,(c x).length=n){l:List α}{i:Nat}{x:α}(h:l[i]?=some x):∃ r,List.drop (i*n) (cells c l)=c x++r:=by
 obtain⟨r,hr⟩:=jE c n hn [] h
 rw[List.append_nil]at hr
 exact⟨r,hr⟩
theorem jK{α:Type}{c:α→List A}{n:Nat}(hn:∀ x,(c x).length=n)(y:α):∀{l:List α} {i:Nat},i<l.length→List.take (i*n) (cells c l)++(c y++List.drop (i*n+n) (cells c l))=cells c (l.set i y)
 |[],i,h=>by simp at h
 |x::l,0,_=>by
  rw[Nat.zero_mul,List.take_zero,List.nil_append,Nat.zero_add,cells,List.drop_left' (hn x),List.set_cons_zero,cells]
 |x::l,i+1,h=>by
  have:=jK hn y (l:=l) (i:=i) (by simpa using h)
  rw[List.set_cons_succ,cells,cells,← this,show(i+1)*n=n+i*n by rw[Nat.add_mul];omega]
  rw[List.take_append,List.take_of_length_le (by rw[hn];omega),hn,show n+i*n-n=i*n by omega]
  have e:List.drop (n+i*n+n) (c x++cells c l)=List.drop (i*n+n) (cells c l):=by
   rw[show n+i*n+n=n+(i*n+n)by omega,← List.drop_drop,List.drop_left' (hn x)]
  rw[e,List.append_assoc]
theorem bO{e e':TypeId}{cs cs':List A}{q q':Bool}{i j:Nat}(hi:H[i]?=some (some ⟨e,cs,q⟩))(hj:H[j]?=some (some ⟨e',cs',q'⟩))(h:Nat.beq e e'=false):i≠j:=by
 rintro rfl
 rw[hi]at hj
 simp only[Option.some.injEq,Blk.mk.injEq]at hj
 rw[hj.1]at h
 simp at h
theorem mA(w:Wo)(vc vk:A){s s':Sy}(vn vm vd:A)(h:s'.homes=s.homes):eQ w vc vk s' vn vm vd=eQ w vc vk s vn vm vd:=by
 unfold eQ iB Sy.dirs
 rw[h]
theorem Rn.other[Kst](R:Rn ow w s rb mb vc vk vd done H){b:Nat}{e:TypeId}{cs:List A}{q:Bool}(hb:H[b]?=some (some ⟨e,cs,q⟩))(h:(List.all [127,125,99,123,211,58] fun t=>!Nat.beq e t)=true)(X:Option Blk):Rn ow w s rb mb vc vk vd done (H.set b X):=by
 simp only[List.all_cons,List.all_nil,Bool.and_true,Bool.and_eq_true,Bool.not_eq_true']at h
 refine⟨aO R.at_ (bO hb R.at_ h.1) X,aO R.kinds (bO hb R.kinds h.2.1) X,?_,?_,?_,aO R.kq (bO hb R.kq h.2.2.2.2.2) X⟩
 ·have:=R.rc
  unfold lO at this ⊢
  cases ow with
  |true =>
   obtain⟨j,h1,h2⟩:=this
   exact⟨j,h1,aO h2 (bO hb h2 h.2.2.1) X⟩
  |false=>exact this
 ·have:=R.rk
  unfold lO at this ⊢
  cases ow with
  |true =>
   obtain⟨j,h1,h2⟩:=this
   exact⟨j,h1,aO h2 (bO hb h2 h.2.2.2.1) X⟩
  |false=>exact this
 ·rcases R.dn with h1|⟨j,h0,h1,h2⟩
  ·exact .inl h1
  ·exact .inr ⟨j,h0,h1,aO h2 (bO hb h2 h.2.2.2.2.1) X⟩
theorem Rn.core[Kst]{jc:Nat}(R:Rn true w s rb mb (.ref jc 0 s.cores.length 12) vk vd done H)(cs:List Pl.Core)(hl:cs.length=s.cores.length):Rn true w ⟨cs,s.caches,s.homes,s.net⟩ rb mb (.ref jc 0 cs.length 12) vk vd done (H.set jc (some ⟨99,cells cK cs,false⟩)):=by
 obtain⟨j,h1,h2⟩:=R.rc
 simp only[A.ref.injEq,and_true]at h1
 subst h1
 refine⟨?_,aO R.kinds (bO h2 R.kinds rfl) _,⟨jc,rfl,bU h2 _⟩,?_,?_,aO R.kq (bO h2 R.kq rfl) _⟩
 ·rw[hl,mA w _ _ _ _ _ (show(Sy.mk cs s.caches s.homes s.net).homes=s.homes from rfl)]
  exact aO R.at_ (bO h2 R.at_ rfl) _
 ·obtain⟨j',h3,h4⟩:=R.rk
  exact⟨j',h3,aO h4 (bO h2 h4 rfl) _⟩
 ·rcases R.dn with h1|⟨j',h0,h3,h4⟩
  ·exact .inl h1
  ·exact .inr ⟨j',h0,h3,aO h4 (bO h2 h4 rfl) _⟩
theorem Rn.cache[Kst]{jk:Nat}(R:Rn true w s rb mb vc (.ref jk 0 s.caches.length 160) vd done H)(ks:List Ca)(hl:ks.length=s.caches.length):Rn true w ⟨s.cores,ks,s.homes,s.net⟩ rb mb vc (.ref jk 0 ks.length 160) vd done (H.set jk (some ⟨123,cells cC ks,false⟩)):=by
 obtain⟨j,h1,h2⟩:=R.rk
 simp only[A.ref.injEq,and_true]at h1
 subst h1
 refine⟨?_,aO R.kinds (bO h2 R.kinds rfl) _,?_,⟨jk,rfl,bU h2 _⟩,?_,aO R.kq (bO h2 R.kq rfl) _⟩
 ·rw[hl,mA w _ _ _ _ _ (show(Sy.mk s.cores ks s.homes s.net).homes=s.homes from rfl)]
  exact aO R.at_ (bO h2 R.at_ rfl) _
 ·obtain⟨j',h3,h4⟩:=R.rc
  exact⟨j',h3,aO h4 (bO h2 h4 rfl) _⟩
 ·rcases R.dn with h1|⟨j',h0,h3,h4⟩
  ·exact .inl h1
  ·exact .inr ⟨j',h0,h3,aO h4 (bO h2 h4 rfl) _⟩
theorem mL:∀{a b:List A},eqL a a=true→eqL b b=true→eqL (a++b) (a++b)=true
 |[],b,_,h=>h
 |x::a,b,h,h'=>by
  rw[eqL,Bool.and_eq_true]at h
  rw[List.cons_append,eqL,Bool.and_eq_true]
  exact⟨h.1,mL h.2 h'⟩
theorem vX{α:Type}{c:α→List A}(hc:∀ x,eqL (c x) (c x)=true):∀ l:List α,eqL (cells c l) (cells c l)=true
 |[]=>rfl
 |x::l=>by
  rw[cells]
  exact mL (hc x) (vX hc l)
theorem jR(l:List (Int×Int)):eqL (dR l) (dR l)=true:=by
 induction l with
 |nil=>rfl
 |cons p l ih =>
  have:dR (p::l)=I8 p.1::I8 p.2::dR l:=by simp[dR]
  rw[this]
  simp only[eqL,eqA,eqV,Bool.and_true,ih]
  simp
theorem aE0[Kst](wT:w.T.Ok)(R:Rn true w s rb mb vc vk vd done H){k:Nat}(k1:k<s.cores.length)(k2:k<s.caches.length)(hk4:k<4){a b c d:Nat}{k':Ca}{co:Pl.Core}
  (ha:H[a]?=some (some ⟨123,cC k',true⟩)) (hb:H[b]?=some (some ⟨99,cK co,true⟩)) (hc:H[c]?=some (some ⟨101,[.ptr rb 0],true⟩)) (hd:H[d]?=some (some ⟨3,[I64 k],true⟩)) :
  bW Cx 175 [.ptr a 0,.ptr b 0,.ptr c 0,.ptr d 0] H fun y K=>y=.tup []∧Rn true w ⟨s.cores.set k co,s.caches.set k k',s.homes,s.net⟩ rb mb vc vk vd done K:=by
 have Hb:=R.at_
 obtain⟨jc,rfl,hjc⟩:=R.rc
 obtain⟨jk,rfl,hjk⟩:=R.rk
 have hta:∀ k,List.take 160 (cC k)=cC k:=fun k=>List.take_of_length_le (by rw[aY];omega)
 have pk:=jK (c:=cC) aY k' k2
 have pc:=jK (c:=cK) (n:=12) (fun _=>rfl) co k1
 simp only[List.cons_append,List.nil_append]at pc
 have b1:=fun X=>aO hb (bO hjk hb rfl) X
 have d1:=fun X=>aO hd (bO hjk hd rfl) X
 have j1:=fun X=>aO hjc (bO hjk hjc rfl) X
 rw[aP a2R aVC];refine⟨by simp[IN],?_⟩
 simp(disch:=omega)only[go_sem,simprocAttr,Hb,(fT wT),(eX wT),ha,hb,hc,hd,hjk,hta,pk,pc,b1,d1,j1,jR,xK,vH,aW]
 have h1:=R.cache (s.caches.set k k') (by simp)
 have h2:=h1.core (s.cores.set k co) (by simp)
 simpa only[List.length_set]using h2
end
structure Sy.Typ(s:Sy)(n:Nat):Prop where
 lc:s.cores.length=n
 lk:s.caches.length=n
 ln:s.net.length≤500
 core:∀ c∈s.cores,c.Ok∧c.buf.length≤255
 cache:∀ k∈s.caches,k.Ok
 home:∀ i,i<6→(s.homes i).Ok
 net:∀ m∈s.net,m.Ok
def a3c[Kst](w:Wo)(n rb mb:Nat)(f:A)(K:aG):Prop:=∀ l:aG,∃ fid caps,f=.clo fid [] caps∧bW Cx fid caps (K++l) fun _ K'=>∃ s' vc vk vd done,Rn true w s' rb mb vc vk vd done K'∧s'.Typ n∧(∀ p∈done,p.Ok)∧done.length≤500
def pF[Kst](w:Wo)(n rb mb:Nat)(ow:Bool)(e:Int)(H:aG)(y:A)(K:aG):Prop:=∃ f l,y=.tup [f,I64 e]∧K=H++l∧(e=0→ow=true→a3c w n rb mb f K)
theorem sL{α:Type}{l:List α}{i:Nat}{x y:α}(h:y∈l.set i x):y∈l∨y=x:=List.mem_or_eq_of_mem_set h
theorem bW.mono{C:Ctx}{f:FuncId}{zs:List A}{H:aG}{G G':A→aG→Prop}(h:bW C f zs H G)(hg:∀ x K,G x K→G' x K):bW C f zs H G':=by
 obtain⟨x,K,h1,h2⟩:=h
 exact⟨x,K,h1,hg x K h2⟩
section
variable{w:Wo}{s:Sy}{n:Nat}
theorem Sy.Typ.put(ts:s.Typ n){k:Nat}{now:Pl.Core}(no:now.Ok)(nb:now.buf.length≤255){k':Ca}(ko:k'.Ok):(Sy.mk (s.cores.set k now) (s.caches.set k k') s.homes s.net).Typ n :=
 ⟨by simp[ts.lc],by simp[ts.lk],ts.ln,fun c hc=>(sL hc).elim (ts.core c) fun e=>e▸⟨no,nb⟩,fun c hc=>(sL hc).elim (ts.cache c) fun e=>e▸ko,ts.home,ts.net⟩
theorem HO(wT:w.T.Ok)(ts:s.Typ n)(n4:n≤4){k:Nat}(hk:k<n){op:Rq}(oo:op.Ok){now:Pl.Core}(no:now.Ok)(nb:now.buf.length≤255) :
  ∃ e:Int,∀ [Kst] {ow:Bool} {rb mb:Nat} {vc vk vd:A} {H:aG},Rn ow w s rb mb vc vk vd [] H→bW Cx 109 [.ptr rb 0,I64 k,eO op,iZ now] H (pF w n rb mb ow e H):=by
 obtain⟨ca,hca⟩:∃ ca,s.caches[k]?=some ca:=⟨_,List.getElem?_eq_getElem (by rw[ts.lk];exact hk)⟩
 have co:=ts.cache ca (List.mem_of_getElem? hca)
 obtain⟨k',e,hW,k'o⟩:=aFr co oo
 obtain⟨r,hr⟩:=c8 aY hca
 have hop:List.drop (k*160+156) (cells cC s.caches)=cO ca.op++r:=by
  rw[← List.drop_drop,hr,List.drop_append_of_le_length (by rw[aY];omega),B8]
 have hop':List.drop 156 (cC ca++r)=cO ca.op++r:=by
  rw[List.drop_append_of_le_length (by rw[aY];omega),B8]
 have hta:∀ k,List.take 160 (cC k)=cC k:=fun k=>List.take_of_length_le (by rw[aY];omega)
 have htl:List.take 160 (cC ca++r)=cC ca:=List.take_left' (aY ca)
 have lk:=ts.lk
 have lc:=ts.lc
 refine⟨if ca.op.kind=0 then e else 272,?_⟩
 intro _ ow rb mb vc vk vd H R
 have Hb:=R.at_
 rw[aP aWo a18];refine⟨by simp[KB],?_⟩
 have typ:=fun now no nb k' k'o=>ts.put (k:=k) (now:=now) no nb (k':=k') k'o
 have none_:∀(e:Int) (l:aG),e≠0→pF w n rb mb ow e H (.tup [.v .nilFunc,I64 e]) (H++l):=fun e l he=>⟨_,l,rfl,rfl,fun h=>absurd h he⟩
 by_cases q0:ca.op.kind=0
 case neg =>
  rw[if_neg q0]
  cases ow with
  |true =>
   obtain⟨jk,rfl,hjk⟩:=R.rk
   simp(disch:=omega)only[go_sem,simprocAttr,(eX wT),aI Hb,aI hjk,hop,eH q0,aE]
   exact none_ _ _ (by decide)
  |false =>
   have:=R.rk
   unfold lO at this
   simp only[cond_false]at this
   subst this
   simp(disch:=omega)only[go_sem,simprocAttr,(eX wT),aI Hb,hr,hop',eH q0,aE]
   exact none_ _ _ (by decide)
 rw[if_pos q0]
 by_cases q1:e=0
 case neg =>
  cases ow with
  |true =>
   obtain⟨jk,rfl,hjk⟩:=R.rk
   simp(disch:=omega)only[go_sem,simprocAttr,(eX wT),aI Hb,aI hjk,hop,hr,htl,q0,QK.use hW,eH q1,List.flatten_cons,List.flatten_nil,aE]
   exact none_ _ _ q1
  |false =>
   have:=R.rk
   unfold lO at this
   simp only[cond_false]at this
   subst this
   simp(disch:=omega)only[go_sem,simprocAttr,(eX wT),aI Hb,hr,hop',htl,q0,QK.use hW,eH q1,List.flatten_cons,List.flatten_nil,aE]
   exact none_ _ _ q1
 subst q1
 cases ow with
 |true =>
  obtain⟨jk,rfl,hjk⟩:=R.rk
  simp(disch:=omega)only[go_sem,simprocAttr,(eX wT),aI Hb,aI hjk,hop,hr,htl,q0,QK.use hW,List.flatten_cons,List.flatten_nil,aE]
  refine⟨_,_,rfl,rfl,fun _ _ l=>⟨_,_,rfl,?_⟩⟩
  refine bW.mono (aE0 wT ((R.app _).app l) (k:=k) (by omega) (by omega) (by omega) (aI ((aZ H _ 4).trans rfl) l) (aI ((aZ H _ 3).trans rfl) l) (aI ((aZ H _ 0).trans rfl) l) (aI ((aZ H _ 1).trans rfl) l)) ?_
  rintro _ K' ⟨-,R2⟩
  exact⟨_,_,_,_,_,R2,typ now no nb k' k'o,by simp,by simp⟩
 |false =>
  have:=R.rk
  unfold lO at this
  simp only[cond_false]at this
  subst this
  simp(disch:=omega)only[go_sem,simprocAttr,(eX wT),aI Hb,hr,hop',htl,q0,QK.use hW,List.flatten_cons,List.flatten_nil,aE]
  exact⟨_,_,rfl,rfl,fun _ h=>by cases h⟩
end
structure Wo.Run(w:Wo)(n:Nat):Prop where
 ok:w.Ok
 good:w.Good
 n:(n:Int)=w.c
theorem Wo.Run.thr{w:Wo}{n:Nat}(h:w.Run n):w.P.threads.length≤4:=by
 have:=h.good.threads
 have:=h.good.geo
 obtain⟨-,c2,-⟩:=this
 omega
theorem Wo.Run.n4{w:Wo}{n:Nat}(h:w.Run n):n≤4:=by
 have:=h.n
 obtain⟨-,c2,-⟩:=h.good.geo
 omega
theorem NZ{w:Wo}(ok:w.Ok)(k:Nat):(thr w k).length≤140737488351232∧∀ x∈thr w k,x.Ok:=by
 unfold thr
 cases h:w.P.threads[k]? with
 |none=>simp
 |some l=>exact ok.P.thread l (List.mem_of_getElem? h)
theorem Sy.Typ.core1{s:Sy}{n:Nat}(ts:s.Typ n){k:Nat}{now:Pl.Core}(no:now.Ok)(nb:now.buf.length≤255):(Sy.mk (s.cores.set k now) s.caches s.homes s.net).Typ n :=
 ⟨by simp[ts.lc],ts.lk,ts.ln,fun c hc=>(sL hc).elim (ts.core c) fun e=>e▸⟨no,nb⟩,ts.cache,ts.home,ts.net⟩
theorem I4(w:Wo)(vc vk:A)(s:Sy):∃ P:List A,∀ vn vm vd,eQ w vc vk s vn vm vd=P++[vn,vm,vd]∧(w.T.Ok→P.length=653):=by
 obtain⟨c0,c1,c2,c3,c4,hc⟩:=jU w.P
 refine⟨cW w++(vc::vk::s.dirs),fun vn vm vd=>⟨?_,fun ok=>?_⟩⟩
 ·unfold eQ iB
  simp only[List.cons_append,List.nil_append,List.append_assoc]
 ·have hl:=d7 ok
  unfold cW cPg Pg.low Wo.gr
  rw[hc]
  simp only[List.length_append,List.length_cons,List.length_nil,hl,F5]
theorem aO3{w:Wo}(ok:w.T.Ok)(vc vk:A)(s:Sy)(vn vm vd vn':A):List.take 653 (eQ w vc vk s vn vm vd)++vn'::vm::vd::List.drop 656 (eQ w vc vk s vn vm vd)=eQ w vc vk s vn' vm vd:=by
 obtain⟨P,h⟩:=I4 w vc vk s
 have hl:=(h vn vm vd).2 ok
 rw[(h vn vm vd).1,(h vn' vm vd).1,List.take_left' hl,show(656:Nat)=653+3 from rfl,← List.drop_drop,List.drop_left' hl]
 rfl
theorem bCZ{w:Wo}(ok:w.T.Ok)(vc vk:A)(s:Sy)(vn vm vd vd':A):List.take 655 (eQ w vc vk s vn vm vd)++vd'::List.drop 656 (eQ w vc vk s vn vm vd)=eQ w vc vk s vn vm vd':=by
 obtain⟨P,h⟩:=I4 w vc vk s
 have hl:=(h vn vm vd).2 ok
 have e:P++[vn,vm,vd]=(P++[vn,vm])++[vd]:=by simp
 have hl':(P++[vn,vm]).length=655:=by simp[hl]
 rw[(h vn vm vd).1,(h vn vm vd').1,e,List.take_left' hl',show(656:Nat)=655+1 from rfl,← List.drop_drop,List.drop_left' hl']
 simp
section
variable{w:Wo}{n:Nat}{rb mb:Nat}
theorem aBB[Kst](W:w.Run n){k:Nat}(hk:k<n){r kp d:Nat}{dv:A}{ds:List Pf}(hdv:(ds=[]∧dv=.v (.slice none 0 0))∨dv=.sl ds.length (cells cP ds))(hdo:∀ p∈ds,p.Ok)(hdl:ds.length≤200){vd:A}{done:List Pf}{KK:List It}{Q:Ex→Ev.St→Prop}
  (hE:∀(K:aG) (s:Sy) (vc vk:A),Rn true w s rb mb vc vk vd done K→s.Typ n→K[r]?=some (some ⟨101,[.ptr rb 0],true⟩)→K[kp]?=some (some ⟨3,[I64 k],true⟩)→K[d]?=some (some ⟨68,[dv],true⟩)→dN Cx (.out 0) KK ⟨[(29,Bo false),(1,.ptr r 0),(2,.ptr kp 0),(4,.ptr d 0),(26,dv),(27,I64 ds.length),(28,I64 ds.length)],K⟩ Q) :
  ∀(m i:Nat) (K:aG) (s:Sy) (vc vk:A),i+m=ds.length→Rn true w s rb mb vc vk vd done K→s.Typ n→K[r]?=some (some ⟨101,[.ptr rb 0],true⟩)→K[kp]?=some (some ⟨3,[I64 k],true⟩)→K[d]?=some (some ⟨68,[dv],true⟩) →
   bG Cx (.code (.loop FG)::KK) ⟨[(1,.ptr r 0),(2,.ptr kp 0),(4,.ptr d 0),(26,dv),(27,I64 ds.length),(28,I64 i)],K⟩ Q:=by
 have wT:=W.ok.T
 intro m
 induction m with
 |zero =>
  intro i K s vc vk hi R ts h1 h2 h3
  obtain rfl:i=ds.length:=by omega
  rw[aA]
  simp(disch:=omega)only[go_sem,simprocAttr,Int.lt_irrefl]
  exact hE K s vc vk R ts h1 h2 h3
 |succ m ih =>
  intro i K s vc vk hi R ts h1 h2 h3
  obtain⟨p,hp⟩:∃ p,ds[i]?=some p:=⟨_,List.getElem?_eq_getElem (by omega)⟩
  obtain rfl:dv=.sl ds.length (cells cP ds):=by
   rcases hdv with⟨rfl,-⟩|h
   ·simp at hp
   ·exact h
  obtain⟨rr,hr⟩:=c8 (c:=cP) (n:=7) (fun _=>rfl) hp
  have po:=hdo p (List.mem_of_getElem? hp)
  obtain⟨c,hc⟩:∃ c,s.cores[k]?=some c:=⟨_,List.getElem?_eq_getElem (by rw[ts.lc];exact hk)⟩
  obtain⟨co,cb⟩:=ts.core c (List.mem_of_getElem? hc)
  obtain⟨rc,hrc⟩:=c8 (c:=cK) (n:=12) (fun _=>rfl) hc
  have hil:i<ds.length:=by omega
  have lc:=ts.lc
  obtain⟨jc,rfl,hjc⟩:=R.rc
  have Hb:=R.at_
  rw[aA]
  simp(disch:=omega)only[go_sem,simprocAttr,(fT wT),(eX wT),aI Hb,aI hjc,aI h1,aI h2,hr,hrc]
  refine aM (vZ (aI Hb _) W.thr k (by have:=W.n4;omega)) ?_
  rintro v K' ⟨hv,rfl⟩
  obtain⟨t1,t2⟩:=NZ W.ok k
  have hB:=aIx hv t1 t2 co cb p
  have c'o:=Pl.back_ok t2 co (old:=p.old) (by have:=po.old;unfold Pl.u8;omega)
  have c'b:=Pl.back_buf (thr w k) cb p.old
  generalize Pl.back (thr w k) c p.old=c' at *
  have pc:=jK (c:=cK) (n:=12) (fun _=>rfl) c' (l:=s.cores) (i:=k) (by rw[lc];exact hk)
  simp only[List.cons_append,List.nil_append]at pc
  have hj:=(List.getElem?_eq_some_iff.1 hjc).1
  have e1:=aO h1 (bO hjc h1 rfl)
  have e2:=aO h2 (bO hjc h2 rfl)
  have e3:=aO h3 (bO hjc h3 rfl)
  have R':=(R.core (s.cores.set k c') (by simp)).app [some ⟨211,cP p,true⟩]
  rw[List.length_set]at R'
  have nx:=ih (i+1) _ _ _ _ (by omega) R' (ts.core1 c'o c'b) (aI (e1 _) _) (aI (e2 _) _) (aI (e3 _) _)
  rw[Int.natCast_add,Int.natCast_one]at nx
  have hjs:=iV hj
  rcases hv with⟨hn,rfl⟩|rfl
  all_goals
   simp(disch:=omega)only[go_sem,simprocAttr,(fT wT),(eX wT),aI Hb,aI hjc,aI h1,aI h2,hrc,QK.use hB,pc,jR,vH,Nat.le_refl]
   rw[aB (l:=[1,2,4,26,27,28]) rfl]
   simp(disch:=omega)only[go_sem,simprocAttr]
   exact nx
theorem Rn.net[Kst](wT:w.T.Ok){s:Sy}{vc vk vd:A}{done:List Pf}{H:aG}(R:Rn true w s rb mb vc vk vd done H)(net:List Mg)(homes:Nat→Dr){vd':A}{done':List Pf}(hd:AP H vd' done'):Rn true w ⟨s.cores,s.caches,homes,net⟩ rb mb vc vk vd' done' (H.set rb (some ⟨127,eQ w vc vk ⟨s.cores,s.caches,homes,net⟩ (.sl net.length (cells cM net)) (.mp mb) vd',true⟩)):=by
 refine⟨bU R.at_ _,aO R.kinds (bO R.at_ R.kinds rfl) _,?_,?_,?_,aO R.kq (bO R.at_ R.kq rfl) _⟩
 ·obtain⟨j,h1,h2⟩:=R.rc
  exact⟨j,h1,aO h2 (bO R.at_ h2 rfl) _⟩
 ·obtain⟨j,h1,h2⟩:=R.rk
  exact⟨j,h1,aO h2 (bO R.at_ h2 rfl) _⟩
 ·rcases hd with h1|⟨j,h0,h1,h2⟩
  ·exact .inl h1
  ·exact .inr ⟨j,h0,h1,aO h2 (bO R.at_ h2 rfl) _⟩
theorem RD:∀ l:List Pf,dE (cells cP l)=true
 |[]=>rfl
 |x::l=>by
  simp only[cells,List.cons_append,List.nil_append,dE,one,Bool.true_and,RD l]
theorem UU[Kst](W:w.Run n){s:Sy}{vc vk vd:A}{H:aG}(R:Rn true w s rb mb vc vk vd [] H)(ts:s.Typ n){k:Nat}(hk:k<n){a r kp o d:Nat}{k':Ca}(ko:k'.Ok){vo dv:A}{out:List Mg}{ds:List Pf}
  (ha:H[a]?=some (some ⟨123,cC k',true⟩)) (hr:H[r]?=some (some ⟨101,[.ptr rb 0],true⟩)) (hkp:H[kp]?=some (some ⟨3,[I64 k],true⟩))
  (ho:H[o]?=some (some ⟨56,[vo],true⟩)) (hd:H[d]?=some (some ⟨68,[dv],true⟩)) (hov:aE5 vo out) (hoo:∀ m∈out,m.Ok) (hol:out.length≤200)
  (hnl:s.net.length≤300) (hdv:(ds=[]∧dv=.v (.slice none 0 0))∨dv=.sl ds.length (cells cP ds)) (hdo:∀ p∈ds,p.Ok) (hdl:ds.length≤200) :
  bW Cx 186 [.ptr a 0,.ptr r 0,.ptr kp 0,.ptr o 0,.ptr d 0] H fun _ K=>∃ s' vc vk vd done,Rn true w s' rb mb vc vk vd done K∧s'.Typ n∧(∀ p∈done,p.Ok)∧done.length≤500:=by
 have wT:=W.ok.T
 have Hb:=R.at_
 obtain⟨jk,rfl,hjk⟩:=R.rk
 have k2:k<s.caches.length:=by rw[ts.lk];exact hk
 have hta:∀ k,List.take 160 (cC k)=cC k:=fun k=>List.take_of_length_le (by rw[aY];omega)
 have pk:=jK (c:=cC) aY k' k2
 have hS:=RA (a:=s.net) (b:=out) (.inr rfl) hov (by omega) (by omega)
 have b1:=aO Hb (bO hjk Hb rfl)
 have r1:=aO hr (bO hjk hr rfl)
 have o1:=aO ho (bO hjk ho rfl)
 have d1:=aO hd (bO hjk hd rfl)
 have kp1:=aO hkp (bO hjk hkp rfl)
 have d2:=fun X=>aO (d1 X) (bO Hb hd rfl)
 have r2:=fun X=>aO (r1 X) (bO Hb hr rfl)
 have kp2:=fun X=>aO (kp1 X) (bO Hb hkp rfl)
 rw[aP a3s a0Y];refine⟨by simp[LH],?_⟩
 have tail:∀{KK:List It} {Q:Ex→Ev.St→Prop},(∀(K:aG) (s':Sy) (vc vk:A),Rn true w s' rb mb vc vk vd [] K→s'.Typ n→K[r]?=some (some ⟨101,[.ptr rb 0],true⟩)→K[d]?=some (some ⟨68,[dv],true⟩)→dN Cx (.out 0) KK ⟨[(29,Bo false),(1,.ptr r 0),(2,.ptr kp 0),(4,.ptr d 0),(26,dv),(27,I64 ds.length),(28,I64 ds.length)],K⟩ Q) →
   bG Cx (.code (.loop FG)::KK) ⟨[(1,.ptr r 0),(2,.ptr kp 0),(4,.ptr d 0),(26,dv),(27,I64 ds.length),(28,I64 (0:Nat))],(H.set jk (some ⟨123,cells cC (s.caches.set k k'),false⟩)).set rb (some ⟨127,eQ w vc (.ref jk 0 s.caches.length 160) s (.sl (s.net.length+out.length) (cells cM (s.net++out))) (.mp mb) vd,true⟩)⟩ Q:=fun {KK Q} hE=>by
  have R1:=R.cache (s.caches.set k k') (by simp)
  have R2:=R1.net wT (s.net++out) s.homes R1.dn
  rw[List.length_set,List.length_append,mA w _ _ _ _ _ (show(Sy.mk s.cores (s.caches.set k k') s.homes (s.net++out)).homes=s.homes from rfl)]at R2
  have ts2:(Sy.mk s.cores (s.caches.set k k') s.homes (s.net++out)).Typ n:=⟨ts.lc,by simp[ts.lk],by simp;omega,ts.core,fun c hc=>(sL hc).elim (ts.cache c) fun e=>e▸ko,ts.home,fun m hm=>(List.mem_append.1 hm).elim (ts.net m) (hoo m)⟩
  exact aBB W hk hdv hdo hdl (fun K s' vc vk R' ts' h1 _ h3=>hE K s' vc vk R' ts' h1 h3) ds.length 0 _ _ _ _ (by omega) R2 ts2 (r2 _ _) (kp2 _ _) (d2 _ _)
 have fin:∀{K:aG} {s':Sy} {vc vk ve:A} {l:List Pf},Rn true w s' rb mb vc vk ve [] K→s'.Typ n→(∀ p∈l,p.Ok)→l.length≤500→∀ vd',AP K vd' l→∃ s2 vc2 vk2 vd2 done,Rn true w s2 rb mb vc2 vk2 vd2 done (K.set rb (some ⟨127,eQ w vc vk s' (.sl s'.net.length (cells cM s'.net)) (.mp mb) vd',true⟩))∧s2.Typ n∧(∀ p∈done,p.Ok)∧done.length≤500:=fun {K s' vc vk ve l} R' ts' lo ll vd' hD=>by
  exact⟨⟨s'.cores,s'.caches,s'.homes,s'.net⟩,vc,vk,vd',l,R'.net wT s'.net s'.homes hD,ts',lo,ll⟩
 have hm1:ds.length≤9223372036854775807:=by omega
 have hm2:ds.length*7≤140737488355328:=by omega
 have hz:ds=[]∨¬ ds.length=0:=by cases ds<;>simp
 rcases hov with⟨rfl,rfl⟩|rfl
 all_goals rcases hdv with⟨rfl,rfl⟩|rfl
 all_goals
  simp(disch:=omega)only[go_sem,simprocAttr,Hb,(eX wT),(pI wT),(mF wT),(lH wT),(tV wT),ha,hr,hkp,hjk,b1,r1,o1,d2,hta,pk,aO3 wT,xK,QK.use hS]
  rw[aB (l:=[1,2,4,26,27,28]) rfl]
  simp(disch:=omega)only[go_sem,simprocAttr]
  have T:=@tail
  try simp only[List.append_nil,List.length_nil,Nat.add_zero,Int.cast_ofNat_Int]at T
  refine T ?_
  intro K s' vc vk R' ts' h1 h3
  have Hb':=R'.at_
  rcases R'.dn with⟨-,e⟩|⟨j,e,-⟩
  case inr=>exact absurd rfl e
  rw[e]at Hb' R'
  rcases hz with hz|hz
  all_goals
   try subst hz
   simp(disch:=omega)only[go_sem,simprocAttr,(lH wT),(tV wT),h1,h3,Hb',aI h1,aI Hb',bCZ wT,iE,RD,cells,maxLen,hm1,hm2,aW]
 ·exact fin R' ts' (l:=[]) (by simp) (by simp) _ (.inl ⟨rfl,rfl⟩)
 ·exact fin R' ts' (l:=[]) (by simp) (by simp) _ (.inl ⟨rfl,rfl⟩)
 ·exact fin R' ts' (l:=[]) (by simp) (by simp) _ (.inl ⟨rfl,rfl⟩)
 ·have f1:=fin (R'.app [some ⟨211,cells cP ds,false⟩]) ts' hdo (by omega) (.ref K.length 0 ds.length 7) (.inr ⟨K.length,by rintro rfl;exact hz rfl,rfl,e9 K _ []⟩)
  exact f1
 ·exact fin R' ts' (l:=[]) (by simp) (by simp) _ (.inl ⟨rfl,rfl⟩)
 ·exact fin R' ts' (l:=[]) (by simp) (by simp) _ (.inl ⟨rfl,rfl⟩)
 ·exact fin R' ts' (l:=[]) (by simp) (by simp) _ (.inl ⟨rfl,rfl⟩)
 ·have f1:=fin (R'.app [some ⟨211,cells cP ds,false⟩]) ts' hdo (by omega) (.ref K.length 0 ds.length 7) (.inr ⟨K.length,by rintro rfl;exact hz rfl,rfl,e9 K _ []⟩)
  exact f1
end
end Go.Proofs.YtpdphobnchajbaaGreatDoor.Ev
