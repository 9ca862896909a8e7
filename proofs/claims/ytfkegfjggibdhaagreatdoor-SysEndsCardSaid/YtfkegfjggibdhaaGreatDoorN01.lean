/- A law for a region that draws its order: its first k operations compute, read memory and make new memory: each of them is looked at once, alone, and whatever order is drawn serves; what is behind them stands in one forced order and is walked as it stands. In two forms: plain, and inside a fence. Conditions: a program under 'wide'; among the first k every slot is written once, and what an operation looks at is written by operations that its edges put ahead of it; each later one has all before it among its ancestors. -/
import Derived.WalkKit
import Derived.Orders
import Derived.OrdersIn
import Derived.TacticsIn
import Derived.Below
import Derived.Laws.AppendOwn
import Derived.Test.YtfkegfjggibdhaaGreatDoorN00
set_option linter.all false
namespace Go.Proofs.YtfkegfjggibdhaaGreatDoor.Rel
open Go Go.RowKit
variable{P:Program}{ops:List Oper}
abbrev Grow(w w':World):Prop:=Below w.heap.size w w'
theorem Grow.refl(w:World):Grow w w:=Below.refl _ _
theorem Grow.trans{a b c:World}(h:Grow a b)(k:Grow b c):Grow a c:=Below.trans h (Below.mono k h.size)
theorem Grow.drew(w:World):Grow w w.drew:=(Below.refl _ _).drew
theorem Grow.below{w w':World}{B:Nat}(h:Grow w w')(hB:B<=w.heap.size):Below B w w':=Below.mono h hB
theorem Grow.size{w w':World}(h:Grow w w'):w.heap.size<=w'.heap.size:=Below.size h
theorem Grow.cell{w w':World}(h:Grow w w'){b o:Nat}(hb:b<w.heap.size):w'.cell? ⟨b,o,none⟩=w.cell? ⟨b,o,none⟩:=Below.cell h hb
theorem Grow.frozen{w w':World}(h:Grow w w'){b o:Nat}(hb:b<w.heap.size):w'.frozen? ⟨b,o,none⟩=w.frozen? ⟨b,o,none⟩:=Below.frozen h hb
def writer:List Oper->Nat->Tmp->Option Nat|[],_,_=>none|o::l,i,t=>if o.dst=some t then some i else writer l (i+1) t
def preds(o:Oper):List Nat:=(o.after.toList.filter (Region.binds .any)).map (·.on)
def masks:List Oper->List Nat->List Nat|[],acc=>acc|o::l,acc=>masks l (acc++[(preds o).foldl (fun m p=>m|||(1<<<p)|||acc.getD p 0) 0])
def ancOk(ops:List Oper)(M:List Nat):Bool:=(List.range ops.length).all fun i=>match ops[i]? with|none=>false|some o=>decide (M.getD i 0<2^i)&&(preds o).all (fun p=>decide (p<i))&&(List.range i).all fun j=>!(M.getD i 0).testBit j||(preds o).any fun p=>p==j||(M.getD p 0).testBit j
def forced(ops:List Oper)(M:List Nat)(k:Nat):Bool:=(List.range ops.length).all fun i=>decide (i<k)||(List.range i).all fun j=>(M.getD i 0).testBit j
def fine(ops:List Oper)(n:Nat)(k:Nat):Bool:=decide (k<=ops.length)&&ancOk ops (masks ops [])&&forced ops (masks ops []) k&&(List.range k).all fun i=>match ops[i]? with|none=>false|some o=>(o.looksAt ops.toArray).all (fun t=>match writer (ops.take k) 0 t with|none=>true|some j=>(preds o).contains j)&&(match o.dst with|none=>false|some d=>decide (d<n)&&writer (ops.take k) 0 d==some i)
theorem writer_some:∀{l:List Oper}{k i:Nat}{t:Tmp},writer l k t=some i->k<=i/\∃o,l[i-k]?=some o/\o.dst=some t|[],_,_,_,h=>by simp[writer]at h|o::l,k,i,t,h=>by unfold writer at h;split at h;{simp_all};{obtain⟨h1,o',h2,h3⟩:=writer_some h;grind}
theorem writer_none:∀{l:List Oper}{k:Nat}{t:Tmp},writer l k t=none->∀o∈l,o.dst≠some t|[],_,_,_,_,h=>by cases h|o::l,k,t,h,o',ho=>by unfold writer at h;split at h;{cases h};{cases ho with|head=>omega|tail _ hm=>exact writer_none h o' hm}
theorem C7{o:Oper}{p:Nat}:p∈preds o↔∃e∈o.after,Region.binds .any e=true/\e.on=p:=by unfold preds;constructor;{grind};grind
theorem lt_of_get{α:Type}{l:List α}{i:Nat}{o:α}(h:l[i]?=some o):i<l.length:=(aa.1 h).1
theorem ancOk_at{M:List Nat}{i:Nat}{o:Oper}(h:ancOk ops M=true)(ho:ops[i]?=some o):(∀p∈preds o,p<i)/\∀j,(M.getD i 0).testBit j=true->j<i/\∃p∈preds o,p=j\/(M.getD p 0).testBit j=true:=by have h1:=bg.1 h i (dq.2 (lt_of_get ho));simp[ho,aq]at h1;obtain⟨⟨h0,h2⟩,h3⟩:=h1;refine⟨fun p hp=>by simp_all,fun j hb=>?_⟩;(have hj:j<i:=by rcases dj j i with h'|h';{omega};{have:=Nat.testBit_lt_two_pow (dg h0 (Nat.pow_le_pow_right (by simp) h'));simp_all});grind
def Closed(ops:List Oper)(listed:Array Bool):Prop:=∀i o,ops[i]?=some o->listed.getD i true=true->∀p∈preds o,listed.getD p true=true
theorem anc_listed{M:List Nat}{listed:Array Bool}(h:ancOk ops M=true)(hc:Closed ops listed):∀(i:Nat)(o:Oper),ops[i]?=some o->(∀p∈preds o,listed.getD p true=true)->∀j,(M.getD i 0).testBit j=true->listed.getD j true=true:=by intro i;induction i using Nat.strongRecOn with|ind i ih=>intro o ho hp j hb;obtain⟨h1,h2⟩:=ancOk_at h ho;obtain⟨hj,p,hpm,hpj⟩:=h2 j hb;rcases hpj with rfl|hpj;{simp_all};{have hlt:=h1 p hpm;(have hlen:p<ops.length:=by have:=lt_of_get ho;omega);have hop:=ae hlen;exact ih p hlt _ hop (fun q hq=>hc p _ hop (hp p hpm) q hq) j hpj}
theorem fine_at{n k i:Nat}{o:Oper}(h:fine ops n k=true)(ho:ops[i]?=some o)(hi:i<k):(∀t∈o.looksAt ops.toArray,∀j,writer (ops.take k) 0 t=some j->j∈preds o)/\(∃d,o.dst=some d/\d<n/\writer (ops.take k) 0 d=some i):=by unfold fine at h;grind
theorem fine_le{n k:Nat}(h:fine ops n k=true):k<=ops.length:=by unfold fine at h;simp_all
theorem fine_anc{n k:Nat}(h:fine ops n k=true):ancOk ops (masks ops [])=true:=by unfold fine at h;simp_all
theorem J6{n k:Nat}(h:fine ops n k=true){i:Nat}(hi:i<ops.length)(hk:k<=i):∀j,j<i->((masks ops []).getD i 0).testBit j=true:=by unfold fine at h;simp at h;have:=bg.1 h.1.2 i (dq.2 hi);grind
theorem ready_spec{listed:Array Bool}{i:Nat}:i∈Region.ready .any ops.toArray listed↔listed.getD i true=false/\∃o,ops[i]?=some o/\∀p∈preds o,listed.getD p false=true:=by rw[mem_ready];constructor;{rintro⟨h1,o,h2,h3⟩;refine⟨h1,o,by simp_all,fun p hp=>?_⟩;obtain⟨e,he,hb,rfl⟩:=C7.1 hp;simp_all};{rintro⟨h1,o,h2,h3⟩;exact⟨h1,o,by simp_all,fun e he hb=>h3 _ (C7.2 ⟨e,he,hb,rfl⟩)⟩}
theorem getD_mono{listed:Array Bool}{p:Nat}(h:listed.getD p false=true):listed.getD p true=true:=by grind
theorem lX{n k:Nat}{listed:Array Bool}{i:Nat}(hf:fine ops n k=true)(hc:Closed ops listed)(hi:i∈Region.ready .any ops.toArray listed)(hk:k<=i):∀j,j<i->listed.getD j true=true:=by obtain⟨-,o,ho,hp⟩:=ready_spec.1 hi;intro j hj;exact anc_listed (fine_anc hf) hc i o ho (fun p hpm=>getD_mono (hp p hpm)) j (J6 hf (lt_of_get ho) hk j hj)
theorem ready_nil{M:List Nat}{listed:Array Bool}(hsz:listed.size=ops.length)(hf:ancOk ops M=true)(hr:Region.ready .any ops.toArray listed=[]):∀j,listed.getD j true=true:=by intro j;induction j using Nat.strongRecOn with|ind j ih=>rcases dj j ops.length with hj|hj;{cases hl:listed.getD j true with|true=>rfl|false=>have ho:=ae hj;have:=ready_spec.2 ⟨hl,ops[j],ho,fun p hp=>by have hlt:=(ancOk_at hf ho).1 p hp;grind⟩;simp_all};simp_all
def aBF(P:Program)(G:World->World->Prop)(R:Value->World->Prop)(w:World):Result Next->Prop|.ok (.value v) w'=>G w w'/\R v w'|.ok .skip w'=>G w w'/\R undef w'|.ok (.enter f args) w'=>Calls P f args w' fun e w''=>∃v,e=.returned v/\G w w''/\R v w''|_=>False
def slotFact(pre:List Oper)(F:List (Value->World->Prop))(a a':Act)(w':World)(t:Tmp):Prop:=match writer pre 0 t with|some j=>(F.getD j fun _ _=>True) (a'.tmps.getD t undef) w'|none=>a'.tmps.getD t undef=a.tmps.getD t undef
def aSb(P:Program)(G:World->World->Prop)(ops:List Oper)(k:Nat)(F:List (Value->World->Prop))(a:Act)(w:World)(i:Nat)(o:Oper):Prop:=∀(a':Act) (w':World),G w w'->a'.tmps.size=a.tmps.size->(∀t,(∀j,writer (ops.take k) 0 t=some j->j∈preds o)->slotFact (ops.take k) F a a' w' t)->if Region.wanted o (yielded ops.toArray a'.tmps)then aBF P G (F.getD i fun _ _=>True) w' ((execOp a'.eval o).run P w')else(F.getD i fun _ _=>True) undef w'
def putAll(a:Act):List Oper->List Value->Act|o::l,v::vs=>putAll (a.put o.dst v) l vs|_,_=>a
def forAllV:List (Value->World->Prop)->World->(List Value->Prop)->Prop|[],_,K=>K []|R::Rs,w,K=>∀v,R v w->forAllV Rs w fun vs=>K (v::vs)
theorem zO:∀{F:List (Value->World->Prop)}{w:World}{K:List Value->Prop},forAllV F w K->∀vs,vs.length=F.length->(∀(i:Nat) (R:Value->World->Prop) (v:Value),F[i]?=some R->vs[i]?=some v->R v w)->K vs|[],_,_,h,[],_,_=>h|[],_,_,_,_::_,hl,_=>by simp_all|_::_,_,_,_,[],hl,_=>by simp_all|R::Rs,w,K,h,v::vs,hl,hR=>zO (h v (hR 0 R v rfl rfl)) vs (by simp_all) (fun i R' v' h1 h2=>hR (i+1) R' v' (by simp_all) (by simp_all))
structure Inv(G:World→World→Prop)(ops:List Oper)(k:Nat)(F:List (Value→World→Prop))(a:Act)(w:World)(listed:Array Bool)(a':Act)(w':World):Prop where
 grow:G w w'
 size:a'.tmps.size=a.tmps.size
 defers:a'.defers=a.defers
 facts:∀ j o t,j<k→ops[j]?=some o→o.dst=some t→listed.getD j true=true→(F.getD j fun _ _=>True) (a'.tmps.getD t undef) w'
 rest:∀ t,(∀ j o,j<k→ops[j]?=some o→o.dst=some t→listed.getD j true=false)→a'.tmps.getD t undef=a.tmps.getD t undef
 lsize:listed.size=ops.length
 closed:Closed ops listed
 late:∀ j,k≤j→j<ops.length→listed.getD j true=false
theorem getD_put{a:Act}{t d:Tmp}{v:Value}(hd:d<a.tmps.size):(a.put (some d) v).tmps.getD t undef=if t=d then v else a.tmps.getD t undef:=by simp[Act.put];by_cases h:t=d;{simp_all};{simp[h,fo h]}
theorem size_put{a:Act}{d:Option Tmp}{v:Value}:(a.put d v).tmps.size=a.tmps.size:=by cases d<;>simp[Act.put]
theorem defers_put{a:Act}{d:Option Tmp}{v:Value}:(a.put d v).defers=a.defers:=by cases d<;>simp[Act.put]
theorem getD_set_true{listed:Array Bool}{i j:Nat}(h:(listed.setIfInBounds i true).getD j true=false):j≠i/\listed.getD j true=false:=by simp at*;by_cases hij:i=j;{grind};grind
theorem getD_set_other{listed:Array Bool}{i j:Nat}(h:(listed.setIfInBounds i true).getD j true=true)(hj:j≠i):listed.getD j true=true:=by simp at*;grind
theorem getD_set_keeps{listed:Array Bool}{i j:Nat}(h:listed.getD j true=true):(listed.setIfInBounds i true).getD j true=true:=by cases h':(listed.setIfInBounds i true).getD j true with|true=>rfl|false=>rw[(getD_set_true h').2]at h;omega
theorem closed_set{listed:Array Bool}{i:Nat}(hc:Closed ops listed)(hi:i∈Region.ready .any ops.toArray listed):Closed ops (listed.setIfInBounds i true):=by obtain⟨-,o,ho,hp⟩:=ready_spec.1 hi;intro j oj hj hl p hpm;by_cases hji:j=i;{subst hji;obtain rfl:=af (ho.symm.trans hj);exact getD_set_keeps (getD_mono (hp p hpm))};{exact getD_set_keeps (hc j oj hj (getD_set_other hl hji) p hpm)}
theorem take_get{k i:Nat}{o:Oper}(h:(ops.take k)[i]?=some o):ops[i]?=some o/\i<k:=by grind
theorem Inv.step{G:World->World->Prop}{k:Nat}{F:List (Value->World->Prop)}{a a':Act}{w w' w'':World}{listed:Array Bool}{i:Nat}{o:Oper}{v:Value}(hst:∀i v w1 w2,G w w1->G w1 w2->(F.getD i fun _ _=>True) v w1->(F.getD i fun _ _=>True) v w2) (htr:∀{a b c},G a b->G b c->G a c) (hf:fine ops a.tmps.size k=true) (ho:ops[i]?=some o) (hik:i<k) (hi:i∈Region.ready .any ops.toArray listed) (h:Inv G ops k F a w listed a' w') (hG:G w' w'') (hR:(F.getD i fun _ _=>True) v w''):Inv G ops k F a w (listed.setIfInBounds i true) (a'.put o.dst v) w'':=by obtain⟨-,d,hd,hdn,hdw⟩:=fine_at hf ho hik;rw[hd];(have hlt:d<a'.tmps.size:=by rw[h.size];omega);refine⟨htr h.grow hG,by rw[size_put,h.size],by rw[defers_put,h.defers],fun j oj t hjk hj ht hl=>?_,fun t ht=>?_,by simpa using h.lsize,closed_set h.closed hi,fun j hj hjl=>?_⟩;{by_cases hji:j=i;{subst hji;obtain rfl:=af (ho.symm.trans hj);obtain rfl:=af (hd.symm.trans ht);simp only[getD_put hlt,em];omega};{have h1:=hst j _ w' w'' h.grow hG (h.facts j oj t hjk hj ht (getD_set_other hl hji));rw[getD_put hlt,if_neg];{omega};{intro e;obtain⟨-,d',hd',-,hdw'⟩:=fine_at hf hj hjk;simp_all}}};{have hold:=h.rest t fun j oj hjk hj hdj=>(getD_set_true (ht j oj hjk hj hdj)).2;rw[getD_put hlt,if_neg];{omega};{intro e;subst e;exact absurd rfl (getD_set_true (ht i o hik ho hd)).1}};{cases h':(listed.setIfInBounds i true).getD j true with|false=>rfl|true=>have:=getD_set_other h' (by omega);rw[h.late j hj hjl]at this;simp_all}
theorem Inv.seen{G:World->World->Prop}{k:Nat}{F:List (Value->World->Prop)}{a a':Act}{w w':World}{listed:Array Bool}{i:Nat}{o:Oper}(hf:fine ops a.tmps.size k=true) (ho:ops[i]?=some o) (hik:i<k) (hr:i∈Region.ready .any ops.toArray listed) (h:Inv G ops k F a w listed a' w'):∀t,(∀j,writer (ops.take k) 0 t=some j->j∈preds o)->slotFact (ops.take k) F a a' w' t:=by intro t h1;obtain⟨-,o',ho',hall⟩:=ready_spec.1 hr;obtain rfl:=af (ho'.symm.trans ho);unfold slotFact;cases hw:writer (ops.take k) 0 t with|none=>refine h.rest t fun j oj hjk hj hd=>absurd hd (writer_none hw oj ?_);exact ah (by simp_all:(ops.take k)[j]?=some oj)|some j=>obtain⟨-,oj,hoj,hd⟩:=writer_some hw;obtain⟨hoj',hjk⟩:=take_get (by omega);exact h.facts j oj t hjk hoj' hd (getD_mono (hall j (h1 j hw)))
theorem size_of_getD{listed:Array Bool}{i:Nat}(hl:listed.getD i true=false):i<listed.size:=by grind
theorem count_set{listed:Array Bool}{i:Nat}(hl:listed.getD i true=false):(listed.setIfInBounds i true).toList.count false+1=listed.toList.count false:=by have hlt:=size_of_getD hl;(have hi':listed[i]=false:=by simp_all);grind
theorem count_zero{listed:Array Bool}(hc:listed.toList.count false<=0):Region.ready .any ops.toArray listed=[]:=by refine iv.2 fun j hj=>?_;obtain⟨hl,-⟩:=ready_spec.1 hj;have:=count_set hl;omega
def mX(a':Act)(ops:List Oper):List Value:=ops.map fun o=>match o.dst with|some t=>a'.tmps.getD t undef|none=>undef
theorem xU:∀(l:List Oper) (vs:List Value) (a:Act) (t:Tmp),vs.length=l.length->(∀o∈l,∀d,o.dst=some d->d<a.tmps.size)->(putAll a l vs).tmps.size=a.tmps.size/\(putAll a l vs).defers=a.defers/\((∀o∈l,o.dst≠some t)->(putAll a l vs).tmps.getD t undef=a.tmps.getD t undef)/\(∀(i:Nat) o v,l[i]?=some o->vs[i]?=some v->o.dst=some t->(∀(j:Nat) o',l[j]?=some o'->o'.dst=some t->j=i)->(putAll a l vs).tmps.getD t undef=v)|[],[],a,t,_,_=>⟨rfl,rfl,fun _=>rfl,fun i o v h=>by simp⟩|[],_::_,_,_,h,_=>by simp_all|_::_,[],_,_,h,_=>by simp_all|o::l,v::vs,a,t,hl,hd=>by have ih:=xU l vs (a.put o.dst v) t (by simp_all) (fun o' ho' d hd'=>by rw[size_put];grind);obtain⟨i1,i2,i3,i4⟩:=ih;refine⟨by rw[putAll,i1,size_put],by rw[putAll,i2,defers_put],fun hno=>?_,fun i oi vi hoi hvi hdi huniq=>?_⟩;{rw[putAll,i3 fun o' ho'=>hno o' (.tail _ ho')];cases hdd:o.dst with|none=>rfl|some d=>rw[getD_put (hd o (.head _) d hdd),if_neg];rintro rfl;simp_all};{cases i with|zero=>simp at hoi hvi;subst hoi hvi;rw[putAll,i3];{rw[hdi,getD_put (hd o (.head _) t hdi),if_pos rfl]};{intro o' ho' hd';obtain⟨k,hk⟩:=jg.1 ho';have:=huniq (k+1) o' (by simpa using hk) hd';omega}|succ i=>rw[putAll];refine i4 i oi vi (by simpa using hoi) (by simpa using hvi) hdi fun j o' hj hd'=>?_;have:=huniq (j+1) o' (by simpa using hj) hd';omega}
theorem Inv.full{G:World->World->Prop}{k:Nat}{F:List (Value->World->Prop)}{a a':Act}{w w':World}{listed:Array Bool}(hf:fine ops a.tmps.size k=true)(hlen:F.length=k) (I:Inv G ops k F a w listed a' w') (hall:∀j,j<k->listed.getD j true=true){K:Act->Prop}(hQ:forAllV F w' fun vs=>K (putAll a (ops.take k) vs)):K a':=by have hk:=fine_le hf;have hv:=zO hQ (mX a' (ops.take k)) (by simp[mX,hlen];omega) ?_;{(have e:putAll a (ops.take k) (mX a' (ops.take k))=a':=by(have hd:∀o∈ops.take k,∀d,o.dst=some d->d<a.tmps.size:=fun o ho d hd=>by obtain⟨i,hi⟩:=jg.1 ho;obtain⟨hi',hik⟩:=take_get hi;obtain⟨-,d',hd',hdn,-⟩:=fine_at hf hi' hik;simp_all);have hs:=fun t=>xU (ops.take k) (mX a' (ops.take k)) a t (by simp[mX]) hd;(have e1:(putAll a (ops.take k) (mX a' (ops.take k))).tmps=a'.tmps:=by refine Array.ext (by rw[(hs 0).1,I.size]) fun t h1 h2=>?_;(have hg:(putAll a (ops.take k) (mX a' (ops.take k))).tmps.getD t undef=a'.tmps.getD t undef:=by cases hw:writer (ops.take k) 0 t with|none=>rw[(hs t).2.2.1 (writer_none hw),I.rest t fun j o hjk hj hd'=>absurd hd' (writer_none hw o (ah (by rw[ii hjk];omega:(ops.take k)[j]?=some o)))]|some i=>obtain⟨-,o,ho,hdo⟩:=writer_some hw;(have ho1:(ops.take k)[i]?=some o:=by omega);refine(hs t).2.2.2 i o _ ho1 ?_ hdo fun j o' hj hd'=>?_;{simp only[mX,de,ho1,cw,hdo]};{obtain⟨hj',hjk⟩:=take_get hj;obtain⟨-,d',hd'',-,hw'⟩:=fine_at hf hj' hjk;simp_all});simp_all);(have e2:(putAll a (ops.take k) (mX a' (ops.take k))).defers=a'.defers:=by rw[(hs 0).2.1,I.defers]);cases hp:putAll a (ops.take k) (mX a' (ops.take k));simp_all);simp_all};{intro i R v hR hvi;(have hlt:i<k:=by have:=lt_of_get hR;omega);(have hio:i<ops.length:=by omega);have ho:ops[i]?=some ops[i]:=ae hio;obtain⟨-,d,hd,-⟩:=fine_at hf ho hlt;have:=I.facts i ops[i] d hlt ho hd (hall i hlt);simp only[ph,hR,dh]at this;(have ho1:(ops.take k)[i]?=some ops[i]:=by simp_all);simp only[mX,de,ho1,cw,ac,hd]at hvi;simp_all}
theorem Inv.start{G:World->World->Prop}{k:Nat}{F:List (Value->World->Prop)}{a:Act}{w w':World}(hG:G w w'):Inv G ops k F a w (Array.replicate ops.length false) a w':=⟨hG,rfl,rfl,fun j o t hj ho _ hl=>by have:=lt_of_get ho;simp_all,fun t _=>rfl,by simp,fun i o ho hl=>by have:=lt_of_get ho;simp_all,fun j _ hj=>by simp_all⟩
theorem count_start(n:Nat):(Array.replicate n false).toList.count false<=n:=by simp
structure Rec where
 looks:List (Tmp×Option Nat)
 guard:Option (Tmp×Bool)
def bN(ops:List Oper)(k:Nat)(D:List Rec):Bool:=decide (D.length=k)&&(List.range k).all fun i=>match ops[i]?,D[i]? with|some o,some d=>d.looks.all (fun(t,j)=>writer (ops.take k) 0 t==j&&(match j with|none=>true|some j=>(preds o).contains j))&&(match o.guard,d.guard with|none,none=>true|some (g,b),some (t,b')=>(b==b')&&(ops[g]?).bind (·.dst)==some t|_,_=>false)|_,_=>false
def WC(F:List (Value->World->Prop))(a a':Act)(w':World):List (Tmp×Option Nat)->Prop->Prop|[],Q=>Q|(t,none)::l,Q=>a'.tmps.getD t undef=a.tmps.getD t undef->WC F a a' w' l Q|(t,some j)::l,Q=>(F.getD j fun _ _=>True) (a'.tmps.getD t undef) w'->WC F a a' w' l Q
def aGt(a':Act):Option (Tmp×Bool)->Prop->Prop->Prop|none,Q,_=>Q|some (t,b),Q,Q'=>∃b':Bool,a'.tmps.getD t undef=.bool b'/\(b'=b->Q)/\(b'≠b->Q')
theorem aGU{G:World->World->Prop}{R:Value->World->Prop}{i:Nat}{o:Oper}{a':Act}{w':World}{K:Act->World->Prop}{Q:Exit->Act->World->Prop}(ho:ops[i]?=some o)(hrefl:G w' w') (hgo:if Region.wanted o (yielded ops.toArray a'.tmps)then aBF P G R w' ((execOp a'.eval o).run P w')else R undef w') (hK:∀v w'',G w' w''->R v w''->K (a'.put o.dst v) w''):wpOp P ops.toArray Q i K a' w':=by unfold wpOp;(have ho':ops.toArray[i]?=some o:=by simp_all);simp[ho'];split;{rename_i hw;rw[if_pos hw]at hgo;refine .inl ?_;unfold Oper.wp;generalize (execOp a'.eval o).run P w'=r at hgo⊢;cases r with|ok n w2=>cases n<;>simp[aBF]at hgo<;>simp[Oper.upon];(case value v=>simp_all);(case skip=>simp_all);case enter f args=>exact hgo.mono fun e w'' ⟨v,he,hG,hR⟩=>by simp_all|halt x w2=>simp[aBF]at hgo};simp_all
theorem KY{m:Nat}{o:Oper}{Q:Exit->Act->World->Prop}{a':Act}{w':World}(ho:ops[m]?=some o)(h:wpList P ops.toArray Q (ops.drop m) a' w'):wpOp P ops.toArray Q m (wpList P ops.toArray Q (ops.drop (m+1))) a' w':=by have hlt:=lt_of_get ho;(have e:ops.drop m=o::ops.drop (m+1):=by rw[gq hlt];simp_all);rw[e]at h;unfold wpOp;(have ho':ops.toArray[m]?=some o:=by simp_all);simp[ho'];exact h
theorem MO{n k:Nat}{Q:Exit->Act->World->Prop}(hf:fine ops n k=true):∀(fuel m:Nat) (listed:Array Bool) (a':Act) (w':World),k<=m->listed.size=ops.length->Closed ops listed->listed.toList.count false<=fuel->(∀j,j<m->listed.getD j true=true)->(∀j,m<=j->j<ops.length->listed.getD j true=false)->wpList P ops.toArray Q (ops.drop m) a' w'->wpAny P .any ops.toArray Q fuel listed a' w':=by(have hend:∀(m:Nat) (listed:Array Bool) (a':Act) (w':World),listed.size=ops.length->(∀j,m<=j->j<ops.length->listed.getD j true=false)->wpList P ops.toArray Q (ops.drop m) a' w'->Region.ready .any ops.toArray listed=[]->Q .normal a' w':=by intro m listed a' w' hsz hl h hr;(have hm:ops.length<=m:=by rcases dj m ops.length with h'|h';{have h1:=hl m (ar _) h';rw[ready_nil hsz (fine_anc hf) hr m]at h1;cases h1};omega);rw[db hm]at h;exact h);intro fuel;induction fuel with|zero=>intro m listed a' w' hk hsz hc hcnt hlo hhi h;exact⟨count_zero hcnt,hend m listed a' w' hsz hhi h (count_zero hcnt)⟩|succ fuel ih=>intro m listed a' w' hk hsz hc hcnt hlo hhi h;refine⟨hend m listed a' w' hsz hhi h,fun i hi=>?_⟩;obtain⟨hl,o,ho,-⟩:=ready_spec.1 hi;(have him:m<=i:=by rcases dj i m with h'|h';{simp_all};omega);(obtain rfl:i=m:=by rcases dj m i with h'|h';{have h1:=lX hf hc hi (by omega) m h';rw[hhi m (ar _) (by have:=lt_of_get ho;omega)]at h1;cases h1};omega);refine wpOp_mono (fun a2 w2 h2=>ih (i+1) _ a2 w2 (by omega) (by simp_all) (closed_set hc hi) (by have:=count_set hl;omega) (fun j hj=>?_) (fun j hj hjl=>?_) h2) (KY ho h);{by_cases hji:j=i;{subst hji;simp};{exact getD_set_keeps (hlo j (by omega))}};{cases h':(listed.setIfInBounds i true).getD j true with|false=>rfl|true=>have:=getD_set_other h' (by omega);rw[hhi j (by omega) hjl]at this;cases this}
theorem aTe{G:World->World->Prop}{k:Nat}{F:List (Value->World->Prop)}{Q:Exit->Act->World->Prop}{a:Act}{w:World}(hf:fine ops a.tmps.size k=true)(hlen:F.length=k) (hrefl:∀w,G w w) (htr:∀{a b c},G a b->G b c->G a c) (hst:∀i v w1 w2,G w w1->G w1 w2->(F.getD i fun _ _=>True) v w1->(F.getD i fun _ _=>True) v w2) (hop:∀i o,i<k->ops[i]?=some o->aSb P G ops k F a w i o) (hQ:∀w',G w w'->forAllV F w' fun vs=>wpList P ops.toArray Q (ops.drop k) (putAll a (ops.take k) vs) w'):∀(fuel:Nat) (listed:Array Bool) (a':Act) (w':World),listed.toList.count false<=fuel->Inv G ops k F a w listed a' w'->wpAny P .any ops.toArray Q fuel listed a' w':=by(have hend:∀(fuel:Nat) (listed:Array Bool) (a':Act) (w':World),listed.toList.count false<=fuel->Inv G ops k F a w listed a' w'->(∀j,j<k->listed.getD j true=true)->wpAny P .any ops.toArray Q fuel listed a' w':=by intro fuel listed a' w' hcnt I hall;exact MO hf fuel k listed a' w' (ar _) I.lsize I.closed hcnt hall I.late (I.full (K:=fun a'=>wpList P ops.toArray Q (ops.drop k) a' w') hf hlen hall (hQ w' I.grow)));intro fuel;induction fuel with|zero=>intro listed a' w' hcnt I;exact hend 0 listed a' w' hcnt I fun j _=>ready_nil I.lsize (fine_anc hf) (count_zero hcnt) j|succ fuel ih=>intro listed a' w' hcnt I;by_cases hall:∀j,j<k->listed.getD j true=true;{simp_all};{refine⟨fun hr=>absurd (fun j _=>ready_nil I.lsize (fine_anc hf) hr j) hall,fun i hi=>?_⟩;obtain⟨hl,o,ho,-⟩:=ready_spec.1 hi;(have hik:i<k:=by rcases dj i k with h'|h';{omega};{exact absurd (fun j hj=>lX hf I.closed hi h' j (by omega)) hall});refine aGU ho (hrefl _) (hop i o hik ho a' w' I.grow I.size (I.seen hf ho hik hi)) fun v w'' hG hR=>?_;exact ih _ _ _ (by have:=count_set hl;omega) (I.step hst htr hf ho hik hi hG hR)}
theorem I1{F:List (Value->World->Prop)}{G:World->World->Prop}{w:World}(hst:∀R∈F,∀v w1 w2,G w w1->G w1 w2->R v w1->R v w2):∀i v w1 w2,G w w1->G w1 w2->(F.getD i fun _ _=>True) v w1->(F.getD i fun _ _=>True) v w2:=by intro i v w1 w2 h1 h2 h3;rw[ph]at h3⊢;cases hi:F[i]? with|none=>simp|some R=>simp[hi]at h3⊢;exact hst R (ah hi) v w1 w2 h1 h2 h3
def Lex(P:Program)(G:World->World->Prop)(a:Act)(w:World)(K:List (Value->World->Prop)->Prop):List Oper->List Rec->List (Value->World->Prop)->Prop|o::l,d::D,F=>∃R:Value->World->Prop,(∀v w1 w2,G w w1->G w1 w2->R v w1->R v w2)/\(∀(a':Act) (w':World),G w w'->WC F a a' w' d.looks (aGt a' d.guard (aBF P G R w' ((execOp a'.eval o).run P w')) (R undef w')))/\Lex P G a w K l D (F++[R])|_,_,F=>K F
section
variable{Fe:Fence}{n:Nat}
def opOkIn(Fe:Fence)(n:Nat)(P:Program)(G:World->World->Prop)(R:Value->World->Prop)(w:World):Result Next->Prop|.ok (.value v) w'=>G w w'/\R v w'|.ok .skip w'=>G w w'/\R undef w'|.ok (.enter f args) w'=>CallsIn Fe (n-1) P f args w' fun e w''=>∃v,e=.returned v/\G w w''/\R v w''|_=>False
def IK(Fe:Fence)(n:Nat)(P:Program)(G:World->World->Prop)(ops:List Oper)(k:Nat)(F:List (Value->World->Prop))(a:Act)(w:World)(i:Nat)(o:Oper):Prop:=∀(a':Act) (w':World),G w w'->a'.tmps.size=a.tmps.size->(∀t,(∀j,writer (ops.take k) 0 t=some j->j∈preds o)->slotFact (ops.take k) F a a' w' t)->if Region.wanted o (yielded ops.toArray a'.tmps)then opOkIn Fe n P G (F.getD i fun _ _=>True) w' ((o.semAt Fe.round a'.eval).run P w')else(F.getD i fun _ _=>True) undef w'
theorem wpOpIn_ok{G:World->World->Prop}{R:Value->World->Prop}{i:Nat}{o:Oper}{a':Act}{w':World}{K:Act->World->Prop}{Q:Exit->Act->World->Prop}(hFn:∀f,Fe.fn f)(hFd:Fe.depth=none)(ho:ops[i]?=some o)(hrefl:G w' w') (hgo:if Region.wanted o (yielded ops.toArray a'.tmps)then opOkIn Fe n P G R w' ((o.semAt Fe.round a'.eval).run P w')else R undef w') (hK:∀v w'',G w' w''->R v w''->K (a'.put o.dst v) w''):wpOpIn Fe n P ops.toArray Q i K a' w':=by unfold wpOpIn;(have ho':ops.toArray[i]?=some o:=by simp_all);simp[ho'];split;{rename_i hw;rw[if_pos hw]at hgo;refine⟨fun f _=>hFn f,?_⟩;generalize (o.semAt Fe.round a'.eval).run P w'=r at hgo⊢;cases r with|ok n w2=>cases n<;>simp[opOkIn]at hgo<;>simp[Oper.uponIn];(case value v=>simp_all);(case skip=>simp_all);case enter f args=>exact⟨(fun h=>(by simp_all)),hgo.mono fun e w'' ⟨v,he,hG,hR⟩=>by simp_all⟩|halt x w2=>simp[opOkIn]at hgo};simp_all
theorem BZ{m:Nat}{o:Oper}{Q:Exit->Act->World->Prop}{a':Act}{w':World}(ho:ops[m]?=some o)(h:wpListIn Fe n P ops.toArray Q (ops.drop m) a' w'):wpOpIn Fe n P ops.toArray Q m (wpListIn Fe n P ops.toArray Q (ops.drop (m+1))) a' w':=by have hlt:=lt_of_get ho;(have e:ops.drop m=o::ops.drop (m+1):=by rw[gq hlt];simp_all);rw[e]at h;unfold wpOpIn;(have ho':ops.toArray[m]?=some o:=by simp_all);simp[ho'];exact h
theorem FE{N k:Nat}{Q:Exit->Act->World->Prop}(hf:fine ops N k=true):∀(fuel m:Nat) (listed:Array Bool) (a':Act) (w':World),k<=m->listed.size=ops.length->Closed ops listed->listed.toList.count false<=fuel->(∀j,j<m->listed.getD j true=true)->(∀j,m<=j->j<ops.length->listed.getD j true=false)->wpListIn Fe n P ops.toArray Q (ops.drop m) a' w'->wpAnyIn Fe n P .any ops.toArray Q fuel listed a' w':=by(have hend:∀(m:Nat) (listed:Array Bool) (a':Act) (w':World),listed.size=ops.length->(∀j,m<=j->j<ops.length->listed.getD j true=false)->wpListIn Fe n P ops.toArray Q (ops.drop m) a' w'->Region.ready .any ops.toArray listed=[]->Q .normal a' w':=by intro m listed a' w' hsz hl h hr;(have hm:ops.length<=m:=by rcases dj m ops.length with h'|h';{have h1:=hl m (ar _) h';rw[ready_nil hsz (fine_anc hf) hr m]at h1;cases h1};omega);rw[db hm]at h;exact h);intro fuel;induction fuel with|zero=>intro m listed a' w' hk hsz hc hcnt hlo hhi h;exact⟨count_zero hcnt,hend m listed a' w' hsz hhi h (count_zero hcnt)⟩|succ fuel ih=>intro m listed a' w' hk hsz hc hcnt hlo hhi h;refine⟨hend m listed a' w' hsz hhi h,fun i hi=>?_⟩;obtain⟨hl,o,ho,-⟩:=ready_spec.1 hi;(have him:m<=i:=by rcases dj i m with h'|h';{simp_all};omega);(obtain rfl:i=m:=by rcases dj m i with h'|h';{have h1:=lX hf hc hi (by omega) m h';rw[hhi m (ar _) (by have:=lt_of_get ho;omega)]at h1;cases h1};omega);refine wpOpIn_mono (fun a2 w2 h2=>ih (i+1) _ a2 w2 (by omega) (by simp_all) (closed_set hc hi) (by have:=count_set hl;omega) (fun j hj=>?_) (fun j hj hjl=>?_) h2) (BZ ho h);{by_cases hji:j=i;{subst hji;simp};{exact getD_set_keeps (hlo j (by omega))}};{cases h':(listed.setIfInBounds i true).getD j true with|false=>rfl|true=>have:=getD_set_other h' (by omega);rw[hhi j (by omega) hjl]at this;cases this}
theorem HW(hFn:∀f,Fe.fn f)(hFd:Fe.depth=none){G:World->World->Prop}{k:Nat}{F:List (Value->World->Prop)}{Q:Exit->Act->World->Prop}{a:Act}{w:World}(hf:fine ops a.tmps.size k=true)(hlen:F.length=k) (hrefl:∀w,G w w) (htr:∀{a b c},G a b->G b c->G a c) (hst:∀i v w1 w2,G w w1->G w1 w2->(F.getD i fun _ _=>True) v w1->(F.getD i fun _ _=>True) v w2) (hop:∀i o,i<k->ops[i]?=some o->IK Fe n P G ops k F a w i o) (hQ:∀w',G w w'->forAllV F w' fun vs=>wpListIn Fe n P ops.toArray Q (ops.drop k) (putAll a (ops.take k) vs) w'):∀(fuel:Nat) (listed:Array Bool) (a':Act) (w':World),listed.toList.count false<=fuel->Inv G ops k F a w listed a' w'->wpAnyIn Fe n P .any ops.toArray Q fuel listed a' w':=by(have hend:∀(fuel:Nat) (listed:Array Bool) (a':Act) (w':World),listed.toList.count false<=fuel->Inv G ops k F a w listed a' w'->(∀j,j<k->listed.getD j true=true)->wpAnyIn Fe n P .any ops.toArray Q fuel listed a' w':=by intro fuel listed a' w' hcnt I hall;exact FE hf fuel k listed a' w' (ar _) I.lsize I.closed hcnt hall I.late (I.full (K:=fun a'=>wpListIn Fe n P ops.toArray Q (ops.drop k) a' w') hf hlen hall (hQ w' I.grow)));intro fuel;induction fuel with|zero=>intro listed a' w' hcnt I;exact hend 0 listed a' w' hcnt I fun j _=>ready_nil I.lsize (fine_anc hf) (count_zero hcnt) j|succ fuel ih=>intro listed a' w' hcnt I;by_cases hall:∀j,j<k->listed.getD j true=true;{simp_all};{refine⟨fun hr=>absurd (fun j _=>ready_nil I.lsize (fine_anc hf) hr j) hall,fun i hi=>?_⟩;obtain⟨hl,o,ho,-⟩:=ready_spec.1 hi;(have hik:i<k:=by rcases dj i k with h'|h';{omega};{exact absurd (fun j hj=>lX hf I.closed hi h' j (by omega)) hall});refine wpOpIn_ok hFn hFd ho (hrefl _) (hop i o hik ho a' w' I.grow I.size (I.seen hf ho hik hi)) fun v w'' hG hR=>?_;exact ih _ _ _ (by have:=count_set hl;omega) (I.step hst htr hf ho hik hi hG hR)}
theorem wpIn_region_rel(hFn:∀f,Fe.fn f)(hFd:Fe.depth=none){id:Nat}{Q:Exit->Act->World->Prop}{a:Act}{w:World}(k:Nat)(G:World->World->Prop)(F:List (Value->World->Prop))(hm:P.follows .mixedOrders=true) (hf:fine ops a.tmps.size k=true) (hlen:F.length=k) (hrefl:∀w,G w w) (htr:∀{a b c},G a b->G b c->G a c) (hdrew:G w w.drew) (hst:∀R∈F,∀v w1 w2,G w w1->G w1 w2->R v w1->R v w2) (hop:∀i o,i<k->ops[i]?=some o->IK Fe n P G ops k F a w i o) (hQ:∀w',G w w'->forAllV F w' fun vs=>wpListIn Fe n P ops.toArray Q (ops.drop k) (putAll a (ops.take k) vs) w'):(Code.region id ops.toArray true).wpIn Fe n P Q a w:=by refine wpIn_region_any hm ?_;have:=HW hFn hFd hf hlen hrefl htr (I1 hst) hop hQ _ _ _ _ (count_start ops.length) (Inv.start hdrew);simp_all
end
end Go.Proofs.YtfkegfjggibdhaaGreatDoor.Rel
namespace Go.Proofs.YtfkegfjggibdhaaGreatDoor.Ev
open Go Go.RowKit
structure MOp where
 dst:Option Nat
 op:Op
 guard:Option (Nat×Bool)
inductive M where
 |skip
 |reg (keep:List Nat) (ops:List MOp) (free:Nat)
 |ops (ops:List MOp)
 |again (ops:List MOp)
 |seq (a b:M)
 |cond (c:Operand) (a b:M)
 |block (id:Nat) (a:M)
 |loop (a:M)
 |rf (g:Operand) (nt:Nat) (ps sl:List Nat) (a b:M)
 |exit (id:Nat)
 |ret
 |bad
inductive A where
 |v (x:Value)
 |agg (cs:List A)
 |tup (vs:List A)
 |ptr (b off:Nat)
 |ref (b off len sz:Nat)
 |sl (len:Nat) (cs:List A)
 |fp (cs:List A)
 |mp (b:Nat)
 |mf (cs:List A)
 |clo (f:FuncId) (fs caps:List A)
 |yl (b:Nat)
 |lrec (nt:Nat) (ps sl:List Nat) (a b:M)
 |it (b:Nat)
 |its (s:ByteArray) (pos:Nat)
instance:Inhabited A:=⟨.v undef⟩
structure Blk where
 e:TypeId
 cs:List A
 whole:Bool
abbrev aF:=List (Option Blk)
structure GD where
 tab:Nat→Option (List Value)
 lk:Nat→List Nat→List Nat→M→M→Loop→Prop
 ifs:Nat→Bool:=fun _=>false
def rB(w:World)(g off:Nat)(xs:List Value):Prop:=∀(i:Nat) x,xs[i]?=some x->w.cell? ⟨g,off+i,none⟩=some x
def gE(es:List MapEntry):List Value:=es.flatMap fun e=>[e.key,e.val]
mutual
def R(ρ:List Nat)(own:Nat→Prop)(w:World):A→Value→Prop
 |.v x,y=>y=x
 |.agg cs,y=>∃ xs:List Value,y=.agg xs.toArray∧RL ρ own w cs xs
 |.tup cs,y=>∃ xs:List Value,y=.tuple xs.toArray∧RL ρ own w cs xs
 |.ptr b off,y=>∃ g,ρ[b]?=some g∧y=.pointer (some ⟨g,off,none⟩)∧∃ cur e fz,w.heap[g]?=some (.cells cur e fz)
 |.ref b off len sz,y=>∃ g cap cur e fz,ρ[b]?=some g∧y=.slice (some ⟨g,off,none⟩) len cap∧len≤cap∧cap≤maxLen∧w.heap[g]?=some (.cells cur e fz)∧off+cap*sz≤cur.size
 |.sl len cs,y=>(len=0∧cs=[]∧∃ a cap,y=.slice a 0 cap)∨∃ g off cap xs,y=.slice (some ⟨g,off,none⟩) len cap∧len≤cap∧g<w.heap.size∧¬ own g∧RL [] own w cs xs∧rB w g off xs
 |.fp cs,y=>∃ g off xs,y=.pointer (some ⟨g,off,none⟩)∧g<w.heap.size∧¬ own g∧RL [] own w cs xs∧rB w g off xs
 |.mp b,y=>∃ g,ρ[b]?=some g∧y=.map (some g)∧∃ es n,w.heap[g]?=some (.map es n)
 |.mf cs,y=>(cs=[]∧y=.map none)∨∃ g es n,y=.map (some g)∧g<w.heap.size∧¬ own g∧w.heap[g]?=some (.map es n)∧RL [] own w cs (gE es.toList)
 |.clo f fs caps,y=>∃ xs ys:List Value,y=.func (.func f) xs.toArray ys.toArray∧RL ρ own w fs xs∧RL ρ own w caps ys
 |.yl b,y=>∃ g,ρ[b]?=some g∧y=.func (.yield g) #[] #[]∧∃ r,w.heap[g]?=some (.loop r)
 |.lrec _ _ _ _ _,_=>False
 |.it b,y=>∃ g,ρ[b]?=some g∧y=.pointer (some ⟨g,0,none⟩)∧∃ s p,w.heap[g]?=some (.stringIter s p)
 |.its _ _,_=>False
def RL(ρ:List Nat)(own:Nat→Prop)(w:World):List A→List Value→Prop
 |[],ys=>ys=[]
 |c::cs,ys=>∃ x xs,ys=x::xs∧R ρ own w c x∧RL ρ own w cs xs
end
theorem RL.length{ρ:List Nat}{own:Nat->Prop}{w:World}:∀{cs:List A}{ys:List Value},RL ρ own w cs ys->ys.length=cs.length|[],_,h=>by rw[RL]at h;simp[h]|_::cs,_,h=>by obtain⟨x,xs,rfl,-,h2⟩:=h;simp[RL.length h2]
theorem RL.get{ρ:List Nat}{own:Nat->Prop}{w:World}:∀{cs:List A}{ys:List Value},RL ρ own w cs ys->∀(i:Nat) c,cs[i]?=some c->∃y,ys[i]?=some y/\R ρ own w c y|[],_,h,i,c,hc=>by simp_all|c0::cs,_,h,i,c,hc=>by obtain⟨x,xs,rfl,h1,h2⟩:=h;cases i with|zero=>simp_all|succ i=>simpa using RL.get h2 i c (by simp_all)
theorem RL.cons{ρ:List Nat}{own:Nat->Prop}{w:World}{c:A}{cs:List A}{x:Value}{xs:List Value}(h:R ρ own w c x)(h':RL ρ own w cs xs):RL ρ own w (c::cs) (x::xs):=by exact⟨x,xs,rfl,h,h'⟩
theorem RL.nil{ρ:List Nat}{own:Nat->Prop}{w:World}:RL ρ own w [] []:=by rw[RL]
theorem RL.append{ρ:List Nat}{own:Nat->Prop}{w:World}:∀{cs ds:List A}{xs ys:List Value},RL ρ own w cs xs->RL ρ own w ds ys->RL ρ own w (cs++ds) (xs++ys)|[],_,_,_,h,h'=>by rw[RL]at h;simp_all|c::cs,_,_,_,h,h'=>by obtain⟨x,xs,rfl,h1,h2⟩:=h;exact RL.cons h1 (RL.append h2 h')
theorem RL.take{ρ:List Nat}{own:Nat->Prop}{w:World}:∀{cs:List A}{xs:List Value}(n:Nat),RL ρ own w cs xs->RL ρ own w (cs.take n) (xs.take n)|_,_,0,_=>by simpa using RL.nil|[],_,n+1,h=>by subst h;simpa using RL.nil|c::cs,_,n+1,h=>by obtain⟨x,xs,rfl,h1,h2⟩:=h;exact RL.cons h1 (RL.take n h2)
theorem RL.drop{ρ:List Nat}{own:Nat->Prop}{w:World}:∀{cs:List A}{xs:List Value}(n:Nat),RL ρ own w cs xs->RL ρ own w (cs.drop n) (xs.drop n)|_,_,0,h=>h|[],_,n+1,h=>by subst h;simpa using RL.nil|c::cs,_,n+1,h=>by obtain⟨x,xs,rfl,h1,h2⟩:=h;simpa using RL.drop n h2
theorem RL.exact{ρ:List Nat}{own:Nat->Prop}{w:World}:∀(xs:List Value),RL ρ own w (xs.map A.v) xs|[]=>RL.nil|_::xs=>RL.cons (by rw[R]) (RL.exact xs)
theorem rB.take{w:World}{g off:Nat}{xs:List Value}(h:rB w g off xs)(n:Nat):rB w g off (xs.take n):=fun i x hx=>h i x (by grind)
theorem rB.drop{w:World}{g off:Nat}{xs:List Value}(h:rB w g off xs)(n:Nat):rB w g (off+n) (xs.drop n):=fun i x hx=>by rw[ny]at hx;have:=h (n+i) x hx;grind
def img(ρ:List Nat)(H:aF)(g:Nat):Prop:=∃(b:Nat) (k:Blk),H[b]?=some (some k)/\ρ[b]?=some g
structure Cfg where
 ρ:List Nat
 own:Nat→Prop
 H:aF
 w:World
def Gl(Gd:GD)(own:Nat->Prop)(w:World):Prop:=(∀g xs,Gd.tab g=some xs->¬own g/\g<w.heap.size/\rB w g 0 xs/\∃e fz,w.heap[g]?=some (.cells xs.toArray e fz))/\∀g,Gd.ifs g=true->¬own g/\g<w.heap.size/\∃t p,w.cell? ⟨g,0,none⟩=some (.iface t p)
theorem Gl.less{Gd:GD}{own own':Nat->Prop}{w:World}(h:Gl Gd own w)(k:∀g,own' g->own g):Gl Gd own' w:=⟨fun g xs hg=>let⟨h1,h2,h3⟩:=h.1 g xs hg;⟨fun h=>h1 (k g h),h2,h3⟩,fun g hg=>let⟨h1,h2,h3⟩:=h.2 g hg;⟨fun h=>h1 (k g h),h2,h3⟩⟩
variable{Gd:GD}
def stV:LoopState->Value|.ready=>.int .i64 0|.busy=>.int .i64 1|.done=>.int .i64 2|.exhausted=>.int .i64 3
def peV:Option Code->Value|none=>.int .i64 0|some .ret=>.int .i64 1|some (.exit id)=>.int .i64 (id+2)|some _=>.nilIface
def aGf(sl:List Nat)(r:Loop):List Value:=stV r.state::peV r.pending::sl.map fun s=>r.tmps.getD s undef
def BR(es:Array MapEntry)(n:Nat):Prop:=n=es.size/\∀(i:Nat) e,es[i]?=some e->e.born=i
def T7(Gd:GD)(ρ:List Nat)(own:Nat->Prop)(w:World)(e:TypeId)(cs:List A)(wh:Bool)(g:Nat):Prop:=(∃cur xs,w.heap[g]?=some (.cells cur e (0,0))/\RL ρ own w cs xs/\xs<+:cur.toList/\(wh=true->cur.size=cs.length))\/(∃es n,w.heap[g]?=some (.map es n)/\RL ρ own w cs (gE es.toList)/\BR es n)\/(∃r nt ps sl a b rest,w.heap[g]?=some (.loop r)/\cs=.lrec nt ps sl a b::rest/\Gd.lk nt ps sl a b r/\RL ρ own w rest (aGf sl r))\/(∃s p,w.heap[g]?=some (.stringIter s p)/\cs=[.its s p])
structure Ok(Gd:GD)(c:Cfg):Prop where
 len:c.ρ.length=c.H.length
 lt:∀ g,c.own g→g<c.w.heap.size
 img:∀ g,img c.ρ c.H g→c.own g
 blk:∀(b:Nat) e cs wh (g:Nat),c.H[b]?=some (some ⟨e,cs,wh⟩)→c.ρ[b]?=some g→T7 Gd c.ρ c.own c.w e cs wh g
 inj:∀(b b':Nat) k k' (g:Nat),c.H[b]?=some (some k)→c.H[b']?=some (some k')→c.ρ[b]?=some g→c.ρ[b']?=some g→b=b'
 glob:Gl Gd c.own c.w
def i7:Obj->Nat|.loop _=>1|.stringIter _ _=>2|.mapIter _ _ _ _=>3|_=>0
theorem BG{o:Obj}(h:i7 o=1):∃r,o=.loop r:=by cases o<;>simp[i7]at h;simp
theorem MN{o:Obj}(h:i7 o=2):∃s p,o=.stringIter s p:=by cases o<;>simp[i7]at h;simp
structure To(c c':Cfg):Prop where
 pre:c.ρ <+: c'.ρ
 size:c.w.heap.size≤c'.w.heap.size
 os:c'.w.os=c.w.os
 tape:c'.w.tape=c.w.tape
 output:c'.w.output=c.w.output
 img:∀ g,g<c.w.heap.size→Ev.img c'.ρ c'.H g→Ev.img c.ρ c.H g
 same:∀ g,g<c.w.heap.size→¬ Ev.img c.ρ c.H g→c'.w.heap[g]?=c.w.heap[g]?
 shape:∀(g:Nat) (cur:Array Value) (e:TypeId) (fz:Nat×Nat),c.w.heap[g]?=some (.cells cur e fz)→∃(cur':Array Value) (fz':Nat×Nat),c'.w.heap[g]?=some (.cells cur' e fz')∧cur'.size=cur.size
 maps:∀(g:Nat) es n,c.w.heap[g]?=some (.map es n)→∃ es' n',c'.w.heap[g]?=some (.map es' n')
 kinds:∀(g:Nat) o,c.w.heap[g]?=some o→i7 o≠0→∃ o',c'.w.heap[g]?=some o'∧i7 o'=i7 o
 own:∀ g,g<c.w.heap.size→(c'.own g→c.own g)∧(c.own g→c'.own g∨Ev.img c.ρ c.H g)
theorem To.refl(c:Cfg):To c c:=⟨ei,ar _,rfl,rfl,rfl,fun _ _ h=>h,fun _ _ _=>rfl,fun _ cur _ fz h=>⟨cur,fz,h,rfl⟩,fun _ es n h=>⟨es,n,h⟩,fun _ o h _=>⟨o,h,rfl⟩,fun _ _=>⟨id,.inl⟩⟩
theorem To.trans{a b c:Cfg}(h:To a b)(k:To b c):To a c:=⟨h.pre.trans k.pre,gp h.size k.size,k.os.trans h.os,k.tape.trans h.tape,k.output.trans h.output,fun g hg hi=>h.img g hg (k.img g (dg hg h.size) hi),fun g hg hn=>(k.same g (dg hg h.size) (fun hi=>hn (h.img g hg hi))).trans (h.same g hg hn),fun g cur e fz hc=>let⟨c1,f1,h1,h2⟩:=h.shape g cur e fz hc;let⟨c2,f2,h3,h4⟩:=k.shape g c1 e f1 h1;⟨c2,f2,h3,h4.trans h2⟩,fun g es n hc=>let⟨es1,n1,h1⟩:=h.maps g es n hc;k.maps g es1 n1 h1,fun g o hc h0=>let⟨o1,h1,h2⟩:=h.kinds g o hc h0;let⟨o2,h3,h4⟩:=k.kinds g o1 h1 (by omega);⟨o2,h3,h4.trans h2⟩,fun g hg=>⟨fun hc=>(h.own g hg).1 ((k.own g (dg hg h.size)).1 hc),fun ha=>((h.own g hg).2 ha).elim (fun hb=>((k.own g (dg hg h.size)).2 hb).imp_right (h.img g hg)) .inr⟩⟩
theorem jK{ρ ρ':List Nat}(h:ρ<+:ρ'){b g:Nat}(hb:ρ[b]?=some g):ρ'[b]?=some g:=by obtain⟨t,rfl⟩:=h;grind
structure jW(ρ:List Nat)(own:Nat→Prop)(w:World)(ρ':List Nat)(own':Nat→Prop)(w':World):Prop where
 pre:ρ <+: ρ'
 size:w.heap.size≤w'.heap.size
 free:∀ g,g<w.heap.size→¬ own g→¬ own' g∧w'.heap[g]?=w.heap[g]?
 shape:∀(g:Nat) (cur:Array Value) (e:TypeId) (fz:Nat×Nat),w.heap[g]?=some (.cells cur e fz)→∃(cur':Array Value) (fz':Nat×Nat),w'.heap[g]?=some (.cells cur' e fz')∧cur'.size=cur.size
 maps:∀(g:Nat) es n,w.heap[g]?=some (.map es n)→∃ es' n',w'.heap[g]?=some (.map es' n')
 kinds:∀(g:Nat) o,w.heap[g]?=some o→i7 o≠0→∃ o',w'.heap[g]?=some o'∧i7 o'=i7 o
theorem jW.shut{ρ ρ':List Nat}{own own':Nat->Prop}{w w':World}(k:jW ρ own w ρ' own' w'):jW [] own w [] own' w':=⟨ei,k.size,k.free,k.shape,k.maps,k.kinds⟩
theorem jW.loop{ρ ρ':List Nat}{own own':Nat->Prop}{w w':World}(k:jW ρ own w ρ' own' w'){g:Nat}{r:Loop}(h:w.heap[g]?=some (.loop r)):∃r',w'.heap[g]?=some (.loop r'):=by obtain⟨o,h1,h2⟩:=k.kinds g _ h (by simp[i7]);obtain⟨r',rfl⟩:=BG h2;simp_all
theorem jW.iter{ρ ρ':List Nat}{own own':Nat->Prop}{w w':World}(k:jW ρ own w ρ' own' w'){g:Nat}{s:ByteArray}{p:Nat}(h:w.heap[g]?=some (.stringIter s p)):∃s' p',w'.heap[g]?=some (.stringIter s' p'):=by obtain⟨o,h1,h2⟩:=k.kinds g _ h (by simp[i7]);obtain⟨s',p',rfl⟩:=MN h2;simp_all
theorem To.loop{c c':Cfg}(k:To c c'){g:Nat}{r:Loop}(h:c.w.heap[g]?=some (.loop r)):∃r',c'.w.heap[g]?=some (.loop r'):=by obtain⟨o,h1,h2⟩:=k.kinds g _ h (by simp[i7]);obtain⟨r',rfl⟩:=BG h2;simp_all
theorem rB.keep{ρ ρ':List Nat}{own own':Nat->Prop}{w w':World}(k:jW ρ own w ρ' own' w'){g off:Nat}{xs:List Value}(hg:g<w.heap.size)(ho:¬own g)(h:rB w g off xs):rB w' g off xs:=fun i x hx=>(World.cell?_of_block (k.free g hg ho).2).trans (h i x hx)
mutual
theorem R.keep{ρ ρ':List Nat}{own own':Nat→Prop}{w w':World}(k:jW ρ own w ρ' own' w'):∀(a:A) (y:Value),R ρ own w a y→R ρ' own' w' a y
 |.v x,y,h=>by rw[R]at *;omega
 |.agg cs,y,h=>by
  rw[R]at *
  obtain⟨xs,h1,h2⟩:=h
  exact⟨xs,h1,RL.keep k cs xs h2⟩
 |.tup cs,y,h=>by
  rw[R]at *
  obtain⟨xs,h1,h2⟩:=h
  exact⟨xs,h1,RL.keep k cs xs h2⟩
 |.ptr b off,y,h=>by
  rw[R]at *
  obtain⟨g,h1,h2,cur,e,fz,h3⟩:=h
  obtain⟨cur',fz',h4,-⟩:=k.shape g cur e fz h3
  exact⟨g,jK k.pre h1,h2,cur',e,fz',h4⟩
 |.ref b off len sz,y,h=>by
  rw[R]at *
  obtain⟨g,cap,cur,e,fz,h1,h2,h3,h4,h5,h6⟩:=h
  obtain⟨cur',fz',h7,h8⟩:=k.shape g cur e fz h5
  exact⟨g,cap,cur',e,fz',jK k.pre h1,h2,h3,h4,h7,h8▸h6⟩
 |.sl len cs,y,h=>by
  rw[R]at *
  rcases h with h|⟨g,off,cap,xs,h1,h0,h2,h3,h4,h5⟩
  ·simp_all
  ·exact .inr ⟨g,off,cap,xs,h1,h0,dg h2 k.size,(k.free g h2 h3).1,RL.keep k.shut cs xs h4,h5.keep k h2 h3⟩
 |.fp cs,y,h=>by
  rw[R]at *
  obtain⟨g,off,xs,h1,h2,h3,h4,h5⟩:=h
  exact⟨g,off,xs,h1,dg h2 k.size,(k.free g h2 h3).1,RL.keep k.shut cs xs h4,h5.keep k h2 h3⟩
 |.mp b,y,h=>by
  rw[R]at *
  obtain⟨g,h1,h2,es,n,h3⟩:=h
  obtain⟨es',n',h4⟩:=k.maps g es n h3
  exact⟨g,jK k.pre h1,h2,es',n',h4⟩
 |.mf cs,y,h=>by
  rw[R]at *
  rcases h with h|⟨g,es,n,h1,h2,h3,h4,h5⟩
  ·simp_all
  ·exact .inr ⟨g,es,n,h1,dg h2 k.size,(k.free g h2 h3).1,(k.free g h2 h3).2.trans h4,RL.keep k.shut cs _ h5⟩
 |.clo f fs caps,y,h=>by
  rw[R]at *
  obtain⟨xs,ys,h1,h2,h3⟩:=h
  exact⟨xs,ys,h1,RL.keep k fs xs h2,RL.keep k caps ys h3⟩
 |.yl b,y,h=>by
  rw[R]at *
  obtain⟨g,h1,h2,r,h3⟩:=h
  obtain⟨r',h4⟩:=k.loop h3
  exact⟨g,jK k.pre h1,h2,r',h4⟩
 |.lrec nt ps sl a b,y,h=>by
  rw[R]at h
  simp_all
 |.it b,y,h=>by
  rw[R]at *
  obtain⟨g,h1,h2,s,p,h3⟩:=h
  obtain⟨s',p',h4⟩:=k.iter h3
  exact⟨g,jK k.pre h1,h2,s',p',h4⟩
 |.its s p,y,h=>by
  rw[R]at h
  simp_all
theorem RL.keep{ρ ρ':List Nat}{own own':Nat→Prop}{w w':World}(k:jW ρ own w ρ' own' w'):∀(cs:List A) (ys:List Value),RL ρ own w cs ys→RL ρ' own' w' cs ys
 |[],ys,h=>by rw[RL]at *;omega
 |c::cs,ys,h=>by
  rw[RL]at *
  obtain⟨x,xs,h1,h2,h3⟩:=h
  exact⟨x,xs,h1,R.keep k c x h2,RL.keep k cs xs h3⟩
end
theorem To.keeps{c c':Cfg}(h:To c c')(ok:Ok Gd c):jW c.ρ c.own c.w c'.ρ c'.own c'.w:=⟨h.pre,h.size,fun g hg ho=>⟨fun ho'=>ho ((h.own g hg).1 ho'),h.same g hg fun hi=>ho (ok.img g hi)⟩,h.shape,h.maps,h.kinds⟩
theorem R.to{c c':Cfg}(h:To c c')(ok:Ok Gd c){a:A}{y:Value}(hr:R c.ρ c.own c.w a y):R c'.ρ c'.own c'.w a y:=R.keep (h.keeps ok) a y hr
theorem RL.to{c c':Cfg}(h:To c c')(ok:Ok Gd c){a:List A}{y:List Value}(hr:RL c.ρ c.own c.w a y):RL c'.ρ c'.own c'.w a y:=RL.keep (h.keeps ok) a y hr
theorem T7.keep{ρ ρ':List Nat}{own own':Nat->Prop}{w w':World}(k:jW ρ own w ρ' own' w'){e:TypeId}{cs:List A}{wh:Bool}{g:Nat}(hs:w'.heap[g]?=w.heap[g]?)(h:T7 Gd ρ own w e cs wh g):T7 Gd ρ' own' w' e cs wh g:=by rcases h with⟨cur,xs,h1,h2,h3,h4⟩|⟨es,n,h1,h2,h3⟩|⟨r,nt,ps,sl,a,b,rest,h1,h2,h3,h4⟩|⟨s,p,h1,h2⟩;{exact .inl ⟨cur,xs,hs.trans h1,RL.keep k _ _ h2,h3,h4⟩};{exact .inr (.inl ⟨es,n,hs.trans h1,RL.keep k _ _ h2,h3⟩)};{exact .inr (.inr (.inl ⟨r,nt,ps,sl,a,b,rest,hs.trans h1,h2,h3,RL.keep k _ _ h4⟩))};{exact .inr (.inr (.inr ⟨s,p,hs.trans h1,h2⟩))}
theorem Ok.cells{c:Cfg}(ok:Ok Gd c){b:Nat}{e:TypeId}{cs:List A}{wh:Bool}{g:Nat}(hb:c.H[b]?=some (some ⟨e,cs,wh⟩))(hg:c.ρ[b]?=some g){cur0:Array Value}{e0:TypeId}{fz0:Nat×Nat}(hc:c.w.heap[g]?=some (.cells cur0 e0 fz0)):∃cur xs,c.w.heap[g]?=some (.cells cur e (0,0))/\RL c.ρ c.own c.w cs xs/\xs<+:cur.toList/\(wh=true->cur.size=cs.length):=by rcases ok.blk b e cs wh g hb hg with h|⟨es,n,h1,-⟩|⟨r,nt,ps,sl,a,b,rest,h1,-⟩|⟨s,p,h1,-⟩;{omega};{simp_all};{simp_all};simp_all
theorem Ok.lt_blk{c:Cfg}(ok:Ok Gd c){b:Nat}{k:Blk}{g:Nat}(hb:c.H[b]?=some (some k))(hg:c.ρ[b]?=some g):g<c.w.heap.size:=ok.lt g (ok.img g ⟨b,k,hb,hg⟩)
theorem Gl.keep{ρ ρ':List Nat}{own own':Nat->Prop}{w w':World}(k:jW ρ own w ρ' own' w')(h:Gl Gd own w):Gl Gd own' w':=by refine⟨fun g xs hg=>?_,fun g hg=>?_⟩;{obtain⟨h1,h2,h3,e,fz,h4⟩:=h.1 g xs hg;exact⟨(k.free g h2 h1).1,dg h2 k.size,h3.keep k h2 h1,e,fz,(k.free g h2 h1).2.trans h4⟩};{obtain⟨h1,h2,t,p,h3⟩:=h.2 g hg;exact⟨(k.free g h2 h1).1,dg h2 k.size,t,p,(World.cell?_of_block (k.free g h2 h1).2).trans h3⟩}
theorem To.glob{c c':Cfg}(h:To c c')(ok:Ok Gd c):Gl Gd c'.own c'.w:=ok.glob.keep (h.keeps ok)
theorem To.drew(c:Cfg):To c {c with w:=c.w.drew}:=⟨ei,ar _,rfl,rfl,rfl,fun _ _ h=>h,fun _ _ _=>rfl,fun _ cur _ fz h=>⟨cur,fz,h,rfl⟩,fun _ es n h=>⟨es,n,h⟩,fun _ o h _=>⟨o,h,rfl⟩,fun _ _=>⟨id,.inl⟩⟩
inductive K where
 |bool
 |int (k:IntKind)
 |str
 |ptr (e:TypeId)
 |slice (e:TypeId)
 |array (n:Nat) (e:TypeId)
 |struct (fs:List (TypeId×Nat×Bool))
 |map (k e:TypeId)
 |func
 |other
structure Ty where
 k:K
 size:Nat
 bytes:Nat
 zero:List Value
 plain:Bool
structure Tb where
 ty:TypeId→Option Ty
 gl:GD
instance:CoeFun Tb fun _=>TypeId->Option Ty:=⟨Tb.ty⟩
def K.agg:K->Bool|.struct _|.array _ _=>true|_=>false
def kOf:TypeDesc->K|.bool=>.bool|.int k=>.int k|.string=>.str|.pointer e=>.ptr e|.slice e=>.slice e|.array n e=>.array n e|.struct fs=>.struct (fs.toList.map fun f=>(f.type,f.offset,f.name !="_"))|.map k e=>.map k e|.func _ _ _=>.func|_=>.other
def xI(k:K):Value->Option (List Value)|.agg cs=>if k.agg then some cs.toList else none|x=>if k.agg then none else some [x]
def aAn(P:Program)(t:TypeId):Option Ty:=match P.info? t,P.underlying t with|some i,some d=>(match i.zero.bind (xI (kOf d))with|some z=>some ⟨kOf d,i.size,i.bytes,z,!P.eqGuardType P.depth t&&!P.stoodInHeld t⟩|none=>none)|_,_=>none
inductive DZ where
 |shut|pass|norm|trim
structure MFn where
 nt:Nat
 res:List ResultVar
 body:M
 mode:DZ
inductive Tr(α:Type) where
 |nil
 |node (x:Option α) (l r:Tr α)
abbrev Env:=List (Nat×A)
def cB:Env->Nat->Option A|[],_=>none|(s,x)::l,t=>bif Nat.beq s t then some x else cB l t
def dO(e:Env):List Nat->Env|[]=>[]|s::l=>match cB e s with|some x=>(s,x)::dO e l|none=>dO e l
def put(e:Env)(d:Option Nat)(x:A):Env:=match d with|some d=>(d,x)::e|none=>e
def ofV:Value->A|.agg xs=>.agg (xs.toList.map .v)|x=>.v x
def opnd(e:Env):Operand->Option A|.tmp t=>cB e t|.const x=>some (ofV x)|.func f=>some (.v (.func (.func f) #[] #[]))|.global g=>some (.v (.pointer (some ⟨g,0,none⟩)))
def opnds(e:Env):List Operand->Option (List A)|[]=>some []|x::l=>match opnd e x,opnds e l with|some a,some as=>some (a::as)|_,_=>none
def fX:A->List A|.agg cs=>cs|.v (.agg xs)=>xs.toList.map .v|x=>[x]
def one:A->Bool|.v (.agg _)|.v (.tuple _)|.agg _|.tup _=>false|_=>true
def bW:List A->Bool|[]=>true|x::l=>one x&&bW l
def yJ(op:BinOp):Value->Value->Option Value|.int k a,.int k' b=>(match op with|.shl=>if b<0 then none else some (.int k (k.wrap (a*2^(min b.toNat k.bits))))|.shr=>if b<0 then none else some (.int k (a.fdiv (2^(min b.toNat k.bits))))|_=>if k=k' then match op with|.add=>some (.int k (k.wrap (a+b)))|.sub=>some (.int k (k.wrap (a-b)))|.mul=>some (.int k (k.wrap (a*b)))|.quo=>if b=0 then none else some (.int k (k.wrap (a.tdiv b)))|.rem=>if b=0 then none else some (.int k (a.tmod b))|.and=>some (.int k (k.wrap (BitVec.ofInt k.bits a&&&BitVec.ofInt k.bits b).toNat))|.or=>some (.int k (k.wrap (BitVec.ofInt k.bits a|||BitVec.ofInt k.bits b).toNat))|.xor=>some (.int k (k.wrap (BitVec.ofInt k.bits a^^^BitVec.ofInt k.bits b).toNat))|.andNot=>some (.int k (k.wrap (BitVec.ofInt k.bits a&&&~~~BitVec.ofInt k.bits b).toNat))|.eql=>some (.bool (a==b))|.neq=>some (.bool (a !=b))|.lss=>some (.bool (a<b))|.leq=>some (.bool (a<=b))|.gtr=>some (.bool (a>b))|.geq=>some (.bool (a>=b))|_=>none else none)|.string a,.string b=>(match op with|.add=>if((a.size+b.size:Nat):Int)>IntKind.i64.max then none else some (.string (a++b))|.eql=>some (.bool (a.toList==b.toList))|.neq=>some (.bool !(a.toList==b.toList))|.lss=>some (.bool (Op.bytesLess a.toList b.toList))|.leq=>some (.bool (Op.bytesLess a.toList b.toList||(a.toList==b.toList)))|.gtr=>some (.bool !(Op.bytesLess a.toList b.toList||(a.toList==b.toList)))|.geq=>some (.bool !(Op.bytesLess a.toList b.toList))|_=>none)|_,_=>none
def KW(T:Tb)(eq:TypeId->List A->List A->Option Bool):List (TypeId×Nat×Bool)->List A->List A->Option Bool|[],_,_=>some true|(t,off,named)::fs,xs,ys=>match T t with|none=>none|some ty=>if named then if off+ty.size<=xs.length/\off+ty.size<=ys.length/\0<ty.size then match eq t ((xs.drop off).take ty.size) ((ys.drop off).take ty.size),KW T eq fs xs ys with|some a,some b=>some (a&&b)|_,_=>none else none else KW T eq fs xs ys
def eqN(eq:TypeId->List A->List A->Option Bool)(e:TypeId)(sz:Nat):Nat->Nat->List A->List A->Option Bool|0,_,_,_=>some true|n+1,i,xs,ys=>if i*sz+sz<=xs.length/\i*sz+sz<=ys.length/\0<sz then match eq e ((xs.drop (i*sz)).take sz) ((ys.drop (i*sz)).take sz),eqN eq e sz n (i+1) xs ys with|some a,some b=>some (a&&b)|_,_=>none else none
def eqT(T:Tb):Nat->TypeId->List A->List A->Option Bool|0,_,_,_=>none|d+1,t,xs,ys=>match T t with|none=>none|some ty=>match ty.k with|.bool=>(match xs,ys with|[.v (.bool a)],[.v (.bool b)]=>some (a==b)|_,_=>none)|.int _=>(match xs,ys with|[.v (.int k a)],[.v (.int k' b)]=>if k=k' then some (a==b)else none|_,_=>none)|.str=>(match xs,ys with|[.v (.string a)],[.v (.string b)]=>some (a==b)|_,_=>none)|.struct fs=>if ty.plain then KW T (eqT T d) fs xs ys else none|.array n e=>(match T e with|some te=>eqN (eqT T d) e te.size n 0 xs ys|none=>none)|_=>none
def uS:K->A->A->Option Bool|.slice _,a,b=>(match a,b with|.ref _ _ _ _,.v (.slice none _ _)=>some false|.v (.slice none _ _),.ref _ _ _ _=>some false|.sl (_+1) _,.v (.slice none _ _)=>some false|.v (.slice none _ _),.sl (_+1) _=>some false|.v (.slice none _ _),.v (.slice none _ _)=>some true|.v (.slice (some _) _ _),.v (.slice none _ _)=>some false|_,_=>none)|.ptr _,a,b=>(match a,b with|.ptr _ _,.v (.pointer none)=>some false|.v (.pointer none),.ptr _ _=>some false|.fp _,.v (.pointer none)=>some false|.v (.pointer none),.fp _=>some false|.v (.pointer none),.v (.pointer none)=>some true|_,_=>none)|.func,a,b=>(match a,b with|.clo _ _ _,.v .nilFunc=>some false|.v .nilFunc,.clo _ _ _=>some false|.v (.func _ _ _),.v .nilFunc=>some false|.v .nilFunc,.v (.func _ _ _)=>some false|.v .nilFunc,.v .nilFunc=>some true|_,_=>none)|_,_,_=>none
def xQ(T:Tb)(t:TypeId)(ty:Ty)(a b:A):Option Bool:=match uS ty.k a b with|some r=>some r|none=>match a,b with|.agg xs,.agg ys=>if ty.k.agg&&ty.plain then eqT T 20 t xs ys else none|.v (.bool x),.v (.bool y)=>(match ty.k with|.bool=>some (x==y)|_=>none)|_,_=>none
def UO(T:Tb)(op:BinOp)(t:TypeId)(a b:A):Option A:=match T t with|none=>none|some ty=>match op,xQ T t ty a b with|.eql,some r=>some (.v (.bool r))|.neq,some r=>some (.v (.bool !r))|_,_=>none
def sG(ty:Ty)(cs:List A)(off:Nat):Option A:=if off+ty.size<=cs.length then if ty.k.agg then some (.agg ((cs.drop off).take ty.size))else if ty.size=1 then cs[off]? else none else none
def bO(f:A->Option A):List A->Option (List A)|[]=>some []|c::cs=>match f c,bO f cs with|some x,some xs=>some (x::xs)|_,_=>none
def freeze(H:aF):Nat->A->Option A|0,_=>none|n+1,a=>match a with|.v x=>some (.v x)|.agg cs=>(bO (freeze H n) cs).map .agg|.tup cs=>(bO (freeze H n) cs).map .tup|.clo f fs caps=>(match bO (freeze H n) fs,bO (freeze H n) caps with|some xs,some ys=>some (.clo f xs ys)|_,_=>none)|.yl _=>none|.lrec _ _ _ _ _=>none|.it _=>none|.its _ _=>none|.sl len cs=>some (.sl len cs)|.fp cs=>some (.fp cs)|.mf cs=>some (.mf cs)|.mp b=>(match H[b]? with|some (some k)=>(bO (freeze H n) k.cs).map .mf|_=>none)|.ptr b off=>(match H[b]? with|some (some k)=>(bO (freeze H n) (k.cs.drop off)).map .fp|_=>none)|.ref b off len sz=>match H[b]? with|some (some k)=>if off+len*sz<=k.cs.length then(bO (freeze H n) ((k.cs.drop off).take (len*sz))).map (.sl len)else none|_=>none
mutual
def nrm:A→A
 |.v x=>match x with
  |.slice none 0 0=>.sl 0 []
  |x=>.v x
 |.agg l=>.agg (iX l)
 |.tup l=>.tup (iX l)
 |.sl n l=>.sl n (iX l)
 |.fp l=>.fp (iX l)
 |.mf l=>.mf (iX l)
 |.clo f l r=>.clo f (iX l) (iX r)
 |.yl b=>.yl b
 |.lrec nt ps sl a b=>.lrec nt ps sl a b
 |.it b=>.it b
 |.its s p=>.its s p
 |.ptr b o=>.ptr b o
 |.ref b o n z=>.ref b o n z
 |.mp b=>.mp b
def iX:List A→List A
 |[]=>[]
 |x::l=>nrm x::iX l
end
def p8(md:DZ)(H:aF)(a:A):Option A:=match md with|.norm=>(freeze H 20 a).map nrm|_=>freeze H 20 a
def shut:A->Bool|.v _|.sl _ _|.fp _|.mf _=>true|.agg cs|.tup cs=>shutL cs|.clo _ fs caps=>shutL fs&&shutL caps|.ptr _ _|.ref _ _ _ _|.mp _|.yl _|.lrec _ _ _ _ _|.it _|.its _ _=>false where shutL:List A->Bool|[]=>true|c::cs=>shut c&&shutL cs
def iG:A->Bool|.v _=>true|.agg cs|.tup cs=>flatL cs|.clo _ fs caps=>flatL fs&&flatL caps|.sl n cs=>Nat.beq n 0&&cs.isEmpty|_=>false where flatL:List A->Bool|[]=>true|c::cs=>iG c&&flatL cs
def dV(H:aF):List A->Option (List A)|[]=>some []|a::l=>match freeze H 20 a,dV H l with|some x,some xs=>some (x::xs)|_,_=>none
def nL(G:Nat->Option (List Value))(H:aF):A->Option (List A)|.v (.pointer (some ⟨g,off,none⟩))=>(match G g with|some xs=>some ((xs.drop off).map .v)|none=>none)|.ptr b off=>(match H[b]? with|some (some k)=>some (k.cs.drop off)|_=>none)|.fp cs=>some cs|_=>none
def nG(place:Nat->Option (Nat×Nat))(cs:List A):List (Nat×A)->Option (List A)|[]=>some cs|(i,x)::rest=>match place i with|none=>none|some (off,size)=>if(fX x).length=size/\off+size<=cs.length then nG place (cs.take off++fX x++cs.drop (off+size)) rest else none
def mR(T:Tb):List (TypeId×Nat×Bool)->Option (List (Nat×Nat))|[]=>some []|(t,off,_)::fs=>match T t,mR T fs with|some ty,some l=>some ((off,ty.size)::l)|_,_=>none
def m8(e:Env):List (Nat×Operand)->Option (List (Nat×A))|[]=>some []|(i,x)::l=>match opnd e x,m8 e l with|some a,some as=>some ((i,a)::as)|_,_=>none
def iJ(z:List Value):Nat->List A|0=>[]|n+1=>z.map .v++iJ z n
def bnd(len:Nat):Option A->Nat->Option Nat|none,d=>some d|some (.v (.int _ i)),_=>if 0<=i/\i<=len then some i.toNat else none|some _,_=>none
def D6(len:Nat)(lo hi:Option A):Option (Nat×Nat):=match bnd len hi len with|none=>none|some h=>match bnd h lo 0 with|some l=>some (l,h)|none=>none
def lU(e:Env):Option Operand->Option (Option A)|none=>some none|some x=>(opnd e x).map some
abbrev eG:=FuncId->List A->Option A
inductive Tgt where
 |fn (f:FuncId)
 |yl (b:Nat)
abbrev Orc:=Tgt->List A->aF->Option (A×aF)
def callee:A->Option (Tgt×List A×List A)|.v (.func (.func f) fs caps)=>if fs.isEmpty&&caps.isEmpty then some (.fn f,[],[])else none|.clo f fs caps=>some (.fn f,fs,caps)|.yl b=>some (.yl b,[],[])|_=>none
def fK:K->Value->Bool|.bool,.bool _=>true|.int k,.int k' _=>decide (k'=k)|.str,.string _=>true|_,_=>false
def gC:Value->Value->Bool|.bool a,.bool b=>a==b|.int _ a,.int _ b=>a==b|.string a,.string b=>a==b|_,_=>false
def kO(kd:K)(key:Value):List A->Nat->Option (Option (Nat×A))|[],_=>some none|.v x::a::l,i=>if fK kd x then(if gC key x then some (some (i,a))else kO kd key l (i+1))else none|_,_=>none
def d7(H:aF):A->Option (List A)|.mf cs=>some cs|.v (.map none)=>some []|.mp b=>(match H[b]? with|some (some k)=>some k.cs|_=>none)|_=>none
def CR(ty:Ty):Option A:=if ty.k.agg then some (.agg (ty.zero.map .v))else match ty.zero with|[z]=>some (.v z)|_=>none
def qL(k:IntKind):List Value->Bool|[]=>true|.int k' _::l=>decide (k'=k)&&qL k l|_=>false
def mS(T:Tb)(tk:Ty)(x:Value):Bool:=fK tk.k x||match tk.k,x with|.array n el,.agg xs=>(match T el with|some te=>(match te.k with|.int k=>Nat.beq te.size 1&&(Nat.beq xs.size n&&qL k xs.toList)|_=>false)|none=>false)|_,_=>false
def yK:List A->Option (List Value)|[]=>some []|.v x::l=>(yK l).map fun r=>x::r|_=>none
def UK:A->Option Value|.v x=>some x|.agg cs=>(yK cs).map fun r=>.agg r.toArray|_=>none
def vE(T:Tb)(kt:TypeId)(xs:List A):List A->Nat->Option (Option (Nat×A))|[],_=>some none|.v (.agg ys)::a::l,i=>(match eqT T 20 kt xs (ys.toList.map .v)with|some true=>some (some (i,a))|some false=>vE T kt xs l (i+1)|none=>none)|_,_=>none
def KC(T:Tb)(kt:TypeId)(tk:Ty)(key:Value)(cs:List A):Option (Option (Nat×A)):=bif fK tk.k key then kO tk.k key cs 0 else bif mS T tk key then match key with|.agg xs=>vE T kt (xs.toList.map .v) cs 0|_=>none else none
def bytesOf:List A->Option (List UInt8)|[]=>some []|.v (.int .u8 x)::l=>if 0<=x/\x<256 then(bytesOf l).map fun r=>UInt8.ofNat x.toNat::r else none|_=>none
def IM(T:Tb)(H:aF)(k k':K)(b off len sz:Nat):Option A:=match k,k',H[b]? with|.slice el,.str,some (some blk)=>(match T el,bytesOf ((blk.cs.drop off).take len)with|some te,some l=>(match te.k with|.int .u8=>if sz=1/\l.length=len then some (.v (.string ⟨l.toArray⟩))else none|_=>none)|_,_=>none)|_,_,_=>none
def aK(T:Tb)(e:Env)(H:aF):Op->Option A|.move x|.assign x=>opnd e x|.pick c a b=>(match opnd e c,opnd e a,opnd e b with|some (.v (.bool t)),some x,some y=>some (bif t then x else y)|some (.v (.bool true)),some x,none=>some x|some (.v (.bool false)),none,some y=>some y|_,_,_=>none)|.load t x=>(match(opnd e x).bind (nL T.gl.tab H),T t with|some cs,some ty=>sG ty cs 0|_,_=>none)|.nilCheck x=>(match opnd e x with|some (.ptr b o)=>some (.ptr b o)|some (.fp cs)=>some (.fp cs)|some (.v (.pointer (some a)))=>some (.v (.pointer (some a)))|some (.clo f a b)=>some (.clo f a b)|some (.v (.func (.func f) a b))=>some (.v (.func (.func f) a b))|_=>none)|.binOp op t x y _=>(match opnd e x,opnd e y with|some (.v a),some (.v b)=>(match yJ op a b with|some r=>some (.v r)|none=>UO T op t (.v a) (.v b))|some a,some b=>UO T op t a b|_,_=>none)|.unOp op _ x=>(match op,opnd e x with|.neg,some (.v (.int k n))=>some (.v (.int k (k.wrap (0-n))))|.xor,some (.v (.int k n))=>some (.v (.int k (k.wrap (BitVec.ofInt k.bits (if k.signed then-1 else k.max)^^^BitVec.ofInt k.bits n).toNat)))|.not,some (.v (.bool b))=>some (.v (.bool !b))|_,_=>none)|.convert src dst x=>(match T src,T dst,opnd e x with|some _,some ty,some (.v (.int _ n))=>(match ty.k with|.int k=>some (.v (.int k (k.wrap n)))|_=>none)|some _,some ty,some (.v (.string s))=>(match ty.k with|.str=>some (.v (.string s))|_=>none)|some sty,some ty,some (.ref b off len sz)=>bif Nat.beq dst 9 then IM T H sty.k ty.k b off len sz else none|_,_,_=>none)|.build t parts=>(match T t,m8 e parts.toList with|some ty,some ps=>(match ty.k with|.struct fs=>(match mR T fs with|some l=>(nG (fun i=>l[i]?) (ty.zero.map .v) ps).map .agg|none=>none)|.array _ el=>(match T el with|some te=>(nG (fun i=>some (i*te.size,te.size)) (ty.zero.map .v) ps).map .agg|none=>none)|_=>none)|_,_=>none)|.fieldAddr t x f=>(match T t,opnd e x with|some ty,some a=>(match ty.k with|.struct fs=>(match fs[f]? with|some (ft,off,_)=>(match T ft with|some fty=>if 0<fty.size then match a with|.ptr b o=>some (.ptr b (o+off))|.fp cs=>some (.fp (cs.drop off))|_=>none else none|none=>none)|none=>none)|_=>none)|_,_=>none)|.field t x f=>(match T t,opnd e x with|some ty,some (.agg cs)=>(match ty.k with|.struct fs=>(match fs[f]? with|some (ft,off,_)=>(match T ft with|some fty=>sG fty cs off|none=>none)|none=>none)|_=>none)|_,_=>none)|.indexAddr t x i=>(match T t,opnd e x,opnd e i with|some ty,some a,some (.v (.int _ n))=>(match ty.k with|.slice el=>(match T el with|some te=>(match a with|.ref b off len sz=>if 0<=n/\n<len/\sz=te.size then some (.ptr b (off+n.toNat*te.size))else none|.sl len cs=>if 0<=n/\n<len then some (.fp (cs.drop (n.toNat*te.size)))else none|_=>none)|none=>none)|.array len el=>(match T el with|some te=>if 0<=n/\n<len then match a with|.ptr b off=>some (.ptr b (off+n.toNat*te.size))|.v (.pointer (some ⟨g,off,none⟩))=>some (.v (.pointer (some ⟨g,off+n.toNat*te.size,none⟩)))|.fp cs=>some (.fp (cs.drop (n.toNat*te.size)))|_=>none else none|none=>none)|_=>none)|_,_,_=>none)|.index t x i=>(match T t,opnd e x,opnd e i with|some ty,some a,some (.v (.int _ n))=>(match ty.k with|.array len el=>(match T el,a with|some te,.agg cs=>if 0<=n/\n<len then sG te cs (n.toNat*te.size)else none|_,_=>none)|.str=>(match a with|.v (.string s)=>if 0<=n then(s[n.toNat]?).map fun b=>.v (.int .u8 b.toNat)else none|_=>none)|_=>none)|_,_,_=>none)|.slice t x lo hi mx=>(match mx,T t,opnd e x,lU e lo,lU e hi with|none,some ty,some a,some l,some h=>(match ty.k with|.str=>(match a with|.v (.string s)=>(match D6 s.size l h with|some (i,j)=>some (.v (.string (s.extract i j)))|none=>none)|_=>none)|.slice el=>(match T el with|some te=>(match a with|.ref b off len sz=>(match D6 len l h with|some (i,j)=>if sz=te.size then if i<len then some (.ref b (off+i*sz) (j-i) sz)else some (.sl 0 [])else none|none=>none)|.sl len cs=>(match D6 len l h with|some (i,j)=>if cs.length=len*te.size then some (.sl (j-i) ((cs.drop (i*te.size)).take ((j-i)*te.size)))else none|none=>none)|.v (.slice none 0 0)=>(match D6 0 l h with|some _=>some (.v (.slice none 0 0))|none=>none)|_=>none)|none=>none)|.array n el=>(match T el,D6 n l h with|some te,some (i,j)=>(match a with|.fp cs=>if n*te.size<=cs.length then some (.sl (j-i) ((cs.drop (i*te.size)).take ((j-i)*te.size)))else none|.ptr b off=>(match H[b]? with|some (some k)=>if k.whole&&Nat.ble (off+n*te.size) k.cs.length&&Nat.ble n maxLen then if i<n then some (.ref b (off+i*te.size) (j-i) te.size)else some (.sl 0 [])else none|_=>none)|_=>none)|_,_=>none)|_=>none)|_,_,_,_,_=>none)|.extract x i=>(match opnd e x with|some (.tup cs)=>cs[i]?|some (.v (.tuple xs))=>(xs[i]?).map ofV|_=>none)|.lookup t m k ok=>(match T t,opnd e m,(opnd e k).bind UK with|some ty,some mv,some key=>(match ty.k with|.map kt et=>(match T kt,T et,d7 H mv with|some tk,some te,some es=>(match KC T kt tk key es with|some (some (_,a))=>some (if ok then .tup [a,.v (.bool true)]else a)|some none=>(match CR te with|some z=>some (if ok then .tup [z,.v (.bool false)]else z)|none=>none)|none=>none)|_,_,_=>none)|_=>none)|_,_,_=>none)|.makeFunc fn first caps=>(match fn,opnds e first.toList,opnds e caps.toList with|.func f,some xs,some ys=>some (.clo f xs ys)|_,_,_=>none)|.call c=>(match c.callee with|.builtin .len=>(match opnds e c.args.toList,(c.argTypes[0]?).bind T.ty with|some [a],some ty=>(match ty.k with|.str=>(match a with|.v (.string s)=>some (.v (.int .i64 s.size))|_=>none)|.array n _=>some (.v (.int .i64 n))|.slice _=>(match a with|.ref _ _ len _=>some (.v (.int .i64 len))|.sl len _=>some (.v (.int .i64 len))|.v (.slice none n _)=>some (.v (.int .i64 n))|_=>none)|_=>none)|_,_=>none)|.builtin .min=>(match opnds e c.args.toList with|some (x::l)=>minA false x l|_=>none)|.builtin .cap=>(match opnds e c.args.toList,(c.argTypes[0]?).bind T.ty with|some [.v (.slice none _ n)],some ty=>(match ty.k with|.slice _=>some (.v (.int .i64 n))|_=>none)|_,_=>none)|.builtin .unsafeSliceData=>(match opnds e c.args.toList with|some [.v (.slice none _ _)]=>some (.v (.pointer none))|some [.ref b off (_+1) _]=>some (.ptr b off)|_=>none)|.builtin .max=>(match opnds e c.args.toList with|some (x::l)=>minA true x l|_=>none)|_=>none)|_=>none where minA (mx:Bool) (x:A):List A->Option A|[]=>some x|y::l=>match x,y with|.v (.int k a),.v (.int _ b)=>minA mx (.v (.int k (bif mx then(if b>a then b else a)else(if b<a then b else a)))) l|_,_=>none
def calls(e:Env):Op->Option (Tgt×List A)|.call c=>(match c.callee with|.value f=>(match(opnd e f).bind callee,opnds e c.args.toList with|some (g,fs,caps),some as=>some (g,fs++as++caps)|_,_=>none)|_=>none)|_=>none
def i9(T:Tb)(e:Env)(t:TypeId)(len:Nat)(parts:Array (Nat×Operand)):Option (TypeId×Nat×List A):=match T t with|some ty=>(match ty.k with|.slice el=>(match T el,m8 e parts.toList with|some te,some ps=>if len*te.size<=2^24/\0<te.size/\len<=maxLen/\te.zero.length=te.size then(nG (fun i=>some (i*te.size,te.size)) (iJ te.zero len) ps).map fun cs=>(el,te.size,cs)else none|_,_=>none)|_=>none)|none=>none
def iM(T:Tb)(e:Env)(H:aF)(t:TypeId)(m k v:Operand):Option (A×aF):=match T t,opnd e m,opnd e k,opnd e v with|some ty,some (.mp b),some (.v key),some a=>(match ty.k,H[b]? with|.map kt _,some (some blk)=>(match T kt with|some tk=>if fK tk.k key then match kO tk.k key blk.cs 0 with|some none=>some (.v undef,H.set b (some ⟨blk.e,blk.cs++[.v key,a],blk.whole⟩))|some (some (i,_))=>some (.v undef,H.set b (some ⟨blk.e,blk.cs.set (2*i+1) a,blk.whole⟩))|none=>none else none|none=>none)|_,_=>none)|_,_,_,_=>none
def nW:List Value->List Value->Bool|[],[]=>true|.int k a::l,.int k' b::l'=>decide (k=k')&&(decide (a=b)&&nW l l')|_,_=>false
def sM(key:Value):Option A->Bool|some (.v (.agg ys))=>(match key with|.agg xs=>nW ys.toList xs.toList|_=>false)|_=>false
def nB(T:Tb)(e:Env)(H:aF)(t:TypeId)(m k:Operand):Option (A×aF):=match T t,opnd e m,(opnd e k).bind UK with|some ty,some (.mp b),some key=>(match ty.k,H[b]? with|.map kt et,some (some blk)=>(match T kt,(T et).bind CR with|some tk,some z=>(match KC T kt tk key blk.cs with|some none=>some (.tup [z,.v (.int .i64 (blk.cs.length/2:Nat))],H.set b (some ⟨blk.e,blk.cs++[.v key,z],blk.whole⟩))|some (some (i,a))=>bif fK tk.k key||sM key blk.cs[2*i]? then some (.tup [a,.v (.int .i64 i)],H.set b (some blk))else none|none=>none)|_,_=>none)|_,_=>none)|_,_,_=>none
def m7(e:Env)(H:aF)(m s x:Operand):Option (A×aF):=match opnd e m,opnd e s,opnd e x with|some (.mp b),some (.v (.int _ i)),some a=>(match H[b]? with|some (some blk)=>if 0<=i/\2*i.toNat+1<blk.cs.length then some (.v undef,H.set b (some ⟨blk.e,blk.cs.set (2*i.toNat+1) a,blk.whole⟩))else none|_=>none)|_,_,_=>none
def GA(l:List UInt8):List A:=l.map fun b=>.v (.int .u8 b.toNat)
def aBJ(T:Tb)(H:aF)(pt:TypeId)(p:A)(n:Int):Option (A×aF):=match p with|.v (.pointer none)=>if n=0 then some (.v (.string .empty),H)else none|.ptr b 0=>(match T pt,H[b]? with|some ty,some (some k)=>(match ty.k with|.ptr el=>(match T el,bytesOf (k.cs.take n.toNat)with|some te,some l=>if te.size=1/\k.e=el/\0<n/\l.length=n.toNat/\l.length<=maxLen then some (.v (.string ⟨l.toArray⟩),H.set b none)else none|_,_=>none)|_=>none)|_,_=>none)|_=>none
def ZV(e:Env)(H:aF)(x:Operand):Option (A×aF):=match opnd e x with|some (.it b)=>(match H[b]? with|some (some k)=>(match k.cs with|[.its s p]=>(match s[p]? with|some u=>bif Nat.blt u.toNat 128 then some (.tup [.v (.bool true),.v (.int .i64 p),.v (.int .i32 u.toNat)],H.set b (some ⟨0,[.its s (p+1)],true⟩))else none|none=>some (.tup [.v (.bool false)],H))|_=>none)|_=>none)|_=>none
def aP(T:Tb)(e:Env)(H:aF):Op→Option (A×aF)
 |.alloc t=>match T t with
  |some ty=>some (.ptr H.length 0,H++[some ⟨t,ty.zero.map .v,true⟩])
  |none=>none
 |.range t x=>match T t,opnd e x with
  |some ty,some (.v (.string s))=>match ty.k with
   |.str=>some (.it H.length,H++[some ⟨0,[.its s 0],true⟩])
   |_=>none
  |_,_=>none
 |.next x str=>bif str then ZV e H x else none
 |.insert t m k v=>iM T e H t m k v
 |.mapUpdate t m k v=>iM T e H t m k v
 |.mapEntry t m k=>nB T e H t m k
 |.entryStore _ m s x=>m7 e H m s x
 |.makeMap t none=>match T t with
  |some ty=>match ty.k with
   |.map _ _=>some (.mp H.length,H++[some ⟨t,[],true⟩])
   |_=>none
  |none=>none
 |.box t x=>match opnd e x with
  |some a=>if bW (fX a)then some (.ptr H.length 0,H++[some ⟨t,fX a,true⟩])else none
  |none=>none
 |.buildSlice t len parts=>match i9 T e t len parts with
  |some (el,sz,cs)=>if bW cs then some (.ref H.length 0 len sz,H++[some ⟨el,cs,true⟩])else none
  |none=>none
 |.store t p x=>match opnd e p,opnd e x,T t with
  |some (.ptr b off),some a,some ty=>match H[b]? with
   |some (some k) =>
    if(fX a).length=ty.size∧off+ty.size≤k.cs.length∧bW (fX a)then some (.v undef,H.set b (some ⟨k.e,k.cs.take off++fX a++k.cs.drop (off+ty.size),k.whole⟩))else none
   |_=>none
  |_,_,_=>none
 |.makeSlice t l c=>match T t,opnd e l,opnd e c with
  |some ty,some (.v (.int _ n)),some (.v (.int _ m))=>match ty.k with
   |.slice el=>match T el with
    |some te=>if 0≤n∧n≤m∧m*te.bytes≤2 ^ 47∧m≤(maxLen:Int)∧0<te.size∧te.zero.length=te.size then some (.ref H.length 0 n.toNat te.size,H++[some ⟨el,iJ te.zero m.toNat,true⟩])else none
    |none=>none
   |_=>none
  |_,_,_=>none
 |.call c=>match c.callee with
  |.builtin .append=>match opnds e c.args.toList,c.argTypes.toList with
   |some [s,x],[t,t']=>match T t with
    |some ty=>match ty.k with
     |.slice el=>match T el with
      |some te=>match srcT H te t t' x with
       |some (m,news)=>if news.length=m*te.size∧te.zero.length=te.size∧bW news then
        match s with
        |.v (.slice none 0 0) =>
         if m=0 then some (s,H)
         else if m≤maxLen∧m*te.bytes≤2 ^ 47 then some (.ref H.length 0 m te.size,H++[some ⟨el,news,false⟩])else none
        |.ref b 0 n sz=>match H[b]? with
         |some (some k) =>
          if sz=te.size∧k.e=el∧n*sz≤k.cs.length∧n+m≤maxLen∧(n+m)*te.bytes≤2 ^ 47 then
           some (.ref H.length 0 (n+m) sz,H.set b none++[some ⟨el,k.cs.take (n*sz)++news,false⟩])
          else none
         |_=>none
        |_=>none
        else none
       |none=>none
      |none=>none
     |_=>none
    |none=>none
   |_,_=>none
  |.builtin .unsafeString=>match opnds e c.args.toList,c.argTypes[0]? with
   |some [p,.v (.int .i64 n)],some pt=>aBJ T H pt p n
   |_,_=>none
  |.builtin .copy=>match opnds e c.args.toList,(c.argTypes[0]?).bind T.ty with
   |some [d,x],some ty=>match ty.k with
    |.slice el=>match T el with
     |some te=>match srcL H te.size x with
      |some (m,news)=>match d with
       |.ref b off n sz=>match H[b]? with
        |some (some k) =>
         let j:=min m n
         let new:=news.take (j*sz)
         if sz=te.size∧news.length=m*te.size∧off+j*sz≤k.cs.length∧bW new then
          some (.v (.int .i64 j),H.set b (some ⟨k.e,k.cs.take off++new++k.cs.drop (off+j*sz),k.whole⟩))
         else none
        |_=>none
       |.v (.slice none 0 0)=>some (.v (.int .i64 0),H)
       |.sl 0 _=>some (.v (.int .i64 0),H)
       |_=>none
      |none=>none
     |none=>none
    |_=>none
   |_,_=>none
  |_=>none
 |_=>none
where
 srcT (H:aF) (te:Ty) (t t':TypeId) (x:A):Option (Nat×List A) :=
  bif Nat.beq t t' then srcL H te.size x
  else match T t' with
   |some ty=>match ty.k,x with
    |.str,.v (.string s)=>bif Nat.beq te.size 1 then some (s.size,GA s.data.toList)else none
    |.int _,.v (.int .i64 l)=>if 0≤l∧l≤maxLen∧0<te.size∧te.zero.length=te.size then some (l.toNat,iJ te.zero l.toNat)else none
    |_,_=>none
   |none=>none
 srcL (H:aF) (sz:Nat):A→Option (Nat×List A)
  |.sl n cs=>some (n,cs)
  |.v (.slice none 0 0)=>some (0,[])
  |.v (.slice (some _) 0 _)=>some (0,[])
  |.ref b off n s=>match H[b]? with
   |some (some k)=>if s=sz∧off+n*s≤k.cs.length then some (n,(k.cs.drop off).take (n*s))else none
   |_=>none
  |_=>none
structure St where
 env:Env
 H:aF
def wants(e:Env):Option (Nat×Bool)->Option Bool|none=>some true|some (t,b)=>match cB e t with|some (.v (.bool x))=>some (x==b)|some (.v (.tuple _))=>some false|_=>none
def eI(T:Tb)(q:eG)(st:St)(op:Op):Option A:=match calls st.env op with|some (.fn f,as)=>(match dV st.H as with|some as'=>(match q f as' with|some r=>if(as.all shut)||iG r then some r else none|none=>none)|none=>none)|some (.yl _,_)=>none|none=>match op with|.buildSlice t len parts=>(match i9 T st.env t len parts with|some (_,_,cs)=>if(shut.shutL cs)&&bW cs then some (.sl len cs)else none|none=>none)|_=>aK T st.env st.H op
def fC(T:Tb)(o:Orc)(st:St)(op:Op):Option (A×aF):=match calls st.env op with|some (f,as)=>o f as st.H|none=>match aP T st.env st.H op with|some r=>some r|none=>(aK T st.env st.H op).map fun a=>(a,st.H)
def bC(T:Tb)(q:eG)(o:Orc):Nat->List MOp->St->Option St|_,[],st=>some st|n,m::ms,st=>match wants st.env m.guard with|none=>none|some false=>bC T q o (n-1) ms ⟨put st.env m.dst (.v undef),st.H⟩|some true=>match n with|n+1=>(match eI T q st m.op with|some a=>bC T q o n ms ⟨put st.env m.dst a,st.H⟩|none=>none)|0=>match fC T o st m.op with|some (a,H')=>bC T q o 0 ms ⟨put st.env m.dst a,H'⟩|none=>none
def eqV:Value->Value->Bool|.int k a,.int k' b=>decide (k=k')&&decide (a=b)|.bool a,.bool b=>a==b|.string a,.string b=>a==b|.slice none a b,.slice none c d=>Nat.beq a c&&Nat.beq b d|.slice (some p) a b,.slice (some q) c d=>decide (p=q)&&(Nat.beq a c&&Nat.beq b d)|.pointer none,.pointer none=>true|.pointer (some a),.pointer (some b)=>decide (a=b)|.map none,.map none=>true|.nilFunc,.nilFunc=>true|.nilIface,.nilIface=>true|.func (.func f) a b,.func (.func g) c d=>Nat.beq f g&&(a.isEmpty&&b.isEmpty&&c.isEmpty&&d.isEmpty)|_,_=>false
mutual
def eqA:A→A→Bool
 |.v x,b=>match b with
  |.v y=>eqV x y
  |_=>false
 |.agg l,b=>match b with
  |.agg r=>eqL l r
  |_=>false
 |.tup l,b=>match b with
  |.tup r=>eqL l r
  |_=>false
 |.ptr i o,b=>match b with
  |.ptr j p=>Nat.beq i j&&Nat.beq o p
  |_=>false
 |.ref i o n z,b=>match b with
  |.ref j p m y=>Nat.beq i j&&Nat.beq o p&&Nat.beq n m&&Nat.beq z y
  |_=>false
 |.sl n l,b=>match b with
  |.sl m r=>Nat.beq n m&&eqL l r
  |_=>false
 |.fp l,b=>match b with
  |.fp r=>eqL l r
  |_=>false
 |.mp i,b=>match b with
  |.mp j=>Nat.beq i j
  |_=>false
 |.mf l,b=>match b with
  |.mf r=>eqL l r
  |_=>false
 |.clo f l r,b=>match b with
  |.clo g l' r'=>Nat.beq f g&&eqL l l'&&eqL r r'
  |_=>false
 |.yl _,_=>false
 |.lrec _ _ _ _ _,_=>false
 |.it _,_=>false
 |.its _ _,_=>false
def eqL:List A→List A→Bool
 |[],b=>b.isEmpty
 |x::l,b=>match b with
  |y::r=>eqA x y&&eqL l r
  |[]=>false
end
def nI(T:Tb)(st:St)(m:MOp):Bool:=match wants st.env m.guard with|none=>false|some false=>true|some true=>match calls st.env m.op with|some (.fn _,l)=>l.all shut|some (.yl _,_)=>false|none=>match m.op with|.buildSlice _ _ _=>true|_=>match m.dst with|none=>false|some d=>match aK T st.env st.H m.op,cB st.env d with|some y,some x=>eqA y x|_,_=>false
def againAll(T:Tb)(st:St):List MOp->Bool|[]=>true|m::ms=>nI T st m&&againAll T st ms
inductive Ex where
 |go
 |out (id:Nat)
 |back
def exOfN:Nat->Ex|0=>.go|1=>.back|n+2=>.out n
def KB:Ex->Nat|.go=>0|.back=>1|.out n=>n+2
structure eZ where
 nt:Nat
 ps:List Nat
 sl:List Nat
 a:M
 b:M
 s:Int
 p:Int
 vs:List A
def aW(H:aF)(b:Nat):Option eZ:=match H[b]? with|some (some k)=>(match k.cs with|.lrec nt ps sl a bd::.v (.int .i64 s)::.v (.int .i64 p)::vs=>some ⟨nt,ps,sl,a,bd,s,p,vs⟩|_=>none)|_=>none
def eZ.blk(r:eZ)(s p:Int):Blk:=⟨0,.lrec r.nt r.ps r.sl r.a r.b::.v (.int .i64 s)::.v (.int .i64 p)::r.vs,true⟩
def pending(H:aF)(b:Nat):Option Ex:=match aW H b with|some r=>if r.s=1 then none else if 0<=r.p then some (exOfN r.p.toNat)else none|none=>none
def eR(nt:Nat)(ps:List Nat)(a b:M)(e:Env):Blk:=⟨0,.lrec nt ps (e.map (·.1)) a b::.v (.int .i64 0)::.v (.int .i64 0)::e.map (·.2),true⟩
def aU(T:Tb)(q:eG)(o:Orc):Nat->M->St->Option (Ex×St)|0,_,_=>none|n+1,m,st=>match m with|.skip=>some (.go,st)|.reg keep ops free=>(match bC T q o free ops ⟨dO st.env keep,st.H⟩with|some st'=>some (.go,st')|none=>none)|.ops ops=>(match bC T q o 0 ops st with|some st'=>some (.go,st')|none=>none)|.again ops=>bif againAll T st ops then some (.go,st)else none|.seq a b=>(match aU T q o n a st with|some (.go,st')=>aU T q o n b st'|r=>r)|.cond c a b=>(match opnd st.env c with|some (.v (.bool t))=>aU T q o n (bif t then a else b) st|_=>none)|.block id a=>(match aU T q o n a st with|some (.out j,st')=>bif Nat.beq j id then some (.go,st')else some (.out j,st')|r=>r)|.loop a=>(match aU T q o n a st with|some (.go,st')=>aU T q o n (.loop a) st'|r=>r)|.rf g nt ps sl a b=>(match(opnd st.env g).bind callee with|some (.fn f,fs,caps)=>(match o (.fn f) (fs++[.yl st.H.length]++caps) (st.H++[some (eR nt ps a b (dO st.env sl))])with|some (_,H')=>(match pending H' st.H.length with|some ex=>some (ex,⟨st.env,H'.set st.H.length none⟩)|none=>none)|none=>none)|_=>none)|.exit id=>some (.out id,st)|.ret=>some (.back,st)|.bad=>none
def i5:Nat->List A->Env|_,[]=>[]|i,a::l=>(i,a)::i5 (i+1) l
def qX(T:Tb)(st:St):ResultVar->Option A|.tmp t=>cB st.env t|.cell p t=>match(cB st.env p).bind (nL T.gl.tab st.H),T t with|some cs,some ty=>sG ty cs 0|_,_=>none
def mO(T:Tb)(st:St):List ResultVar->Option (List A)|[]=>some []|r::rs=>match qX T st r,mO T st rs with|some a,some as=>some (a::as)|_,_=>none
def dD(T:Tb)(st:St)(rs:List ResultVar):Option A:=match mO T st rs with|some [a]=>some a|some as=>some (.tup as)|none=>none
structure Ctx where
 T:Tb
 B:FuncId→Option MFn
 X:FuncId→List A→Option A
 XO:FuncId→Option (List A→aF→Option (A×aF))
def nX(C:Ctx)(f:FuncId):Bool:=match C.B f with|some m=>(match m.mode with|.pass=>true|_=>false)|none=>false
def zX(C:Ctx)(f:FuncId):Bool:=match C.B f with|some m=>(match m.mode with|.trim=>true|_=>false)|none=>false
mutual
def xJ(n:Nat):A→Bool
 |.v _|.sl _ _|.fp _|.mf _|.its _ _|.lrec _ _ _ _ _=>true
 |.agg cs|.tup cs=>F7 n cs
 |.clo _ fs caps=>F7 n fs&&F7 n caps
 |.ptr b _|.ref b _ _ _|.mp b|.yl b|.it b=>Nat.blt b n
def F7(n:Nat):List A→Bool
 |[]=>true
 |c::cs=>xJ n c&&F7 n cs
end
def V5(n:Nat):Nat->aF->Bool|0,_=>true|_,[]=>true|k+1,o::H=>(match o with|some blk=>F7 n blk.cs|none=>true)&&V5 n k H
def JI(n:Nat):Option (A×aF)->Option (A×aF)|some (a,H)=>bif xJ n a&&V5 n n H then some (a,H.take n)else none|none=>none
def dY(C:Ctx)(q:eG)(o:Orc)(n:Nat)(m:MFn)(as:List A)(H:aF):Option (A×aF):=if as.length<=m.nt then match aU C.T q o n m.body ⟨i5 0 as,H⟩with|some (.go,st)|some (.back,st)=>(match dD C.T st m.res with|some a=>some (a,st.H)|none=>none)|_=>none else none
def dM:List Nat->List A->Env->Env|s::l,x::xs,e=>dM l xs ((s,x)::e)|_,_,e=>e
def jE(T:Tb)(q:eG)(o:Orc)(n:Nat)(b:Nat)(as:List A)(H:aF):Option (A×aF):=match aW H b with|some r=>if r.s=0/\as.length=r.ps.length then match aU T q o n r.a ⟨dM r.ps as (dM r.sl r.vs []),H⟩with|some (.go,s1)=>(match aW s1.H b with|some r1=>if r1.s=0 then match aU T q o n r.b ⟨s1.env,s1.H.set b (some (r1.blk 1 r1.p))⟩with|some (ex,s2)=>(match aW s2.H b with|some r2=>(match ex with|.go=>some (.v (.bool true),s2.H.set b (some (r2.blk 0 0)))|ex=>some (.v (.bool false),s2.H.set b (some (r2.blk 2 (KB ex)))))|none=>none)|none=>none else none|none=>none)|_=>none else none|none=>none
def aS(C:Ctx):Nat->eG|0,_,_=>none|n+1,f,as=>match C.X f as with|some r=>some r|none=>match C.B f with|none=>none|some m=>match dY C (aS C n) (callO n) n m as []with|some (a,H)=>p8 m.mode H a|none=>none where callO:Nat->Orc|0,_,_,_=>none|n+1,.fn f,as,H=>(match C.XO f with|some g=>g as H|none=>bif nX C f then match C.B f with|none=>none|some m=>dY C (aS C n) (callO n) n m as H else bif zX C f then match C.B f with|none=>none|some m=>JI H.length (dY C (aS C n) (callO n) n m as H)else match dV H as with|some as'=>(match aS C n f as' with|some r=>if(as.all shut)||iG r then some (r,H)else none|none=>none)|none=>none)|n+1,.yl b,as,H=>jE C.T (aS C n) (callO n) n b as H
