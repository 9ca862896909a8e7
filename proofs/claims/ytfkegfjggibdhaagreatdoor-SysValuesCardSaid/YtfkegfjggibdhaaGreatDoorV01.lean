/- A law for a region that draws its order: its first k operations compute, read memory and make new memory: each of them is looked at once, alone, and whatever order is drawn serves; what is behind them stands in one forced order and is walked as it stands. In two forms: plain, and inside a fence. Conditions: a program under 'wide'; among the first k every slot is written once, and what an operation looks at is written by operations that its edges put ahead of it; each later one has all before it among its ancestors. -/
import Derived.WalkKit
import Derived.Orders
import Derived.OrdersIn
import Derived.TacticsIn
import Derived.Below
import Derived.Laws.AppendOwn
import Derived.WalkSpells
import Derived.Test.YtfkegfjggibdhaaGreatDoorV00
set_option linter.all false
namespace Go.Proofs.YtfkegfjggibdhaaGreatDoor.Rel
open Go Go.RowKit
variable{P:Program}{ops:List Oper}
abbrev Grow(w w':World):Prop:=Below w.heap.size w w'
theorem Grow.refl(w:World):Grow w w:=Below.refl _ _
theorem Grow.trans{a b c:World}(h:Grow a b)(k:Grow b c):Grow a c:=Below.trans h (Below.mono k h.size)
theorem Grow.drew(w:World):Grow w w.drew:=(Below.refl _ _).drew
theorem Grow.below{w w':World}{B:Nat}(h:Grow w w')(hB:B<=w.heap.size):Below B w w':=Below.mono h hB
theorem Grow.size{w w':World}(h:Grow w w'):w.heap.size<=w'.heap.size:=Below.size h
theorem Grow.cell{w w':World}(h:Grow w w'){b o:Nat}(hb:b<w.heap.size):w'.cell? ⟨b,o,none⟩=w.cell? ⟨b,o,none⟩:=Below.cell h hb
theorem Grow.frozen{w w':World}(h:Grow w w'){b o:Nat}(hb:b<w.heap.size):w'.frozen? ⟨b,o,none⟩=w.frozen? ⟨b,o,none⟩:=Below.frozen h hb
def writer:List Oper->Nat->Tmp->Option Nat|[],_,_=>none|o::l,i,t=>if o.dst=some t then some i else writer l (i+1) t
def preds(o:Oper):List Nat:=(o.after.toList.filter (Region.binds .any)).map (·.on)
def masks:List Oper->List Nat->List Nat|[],acc=>acc|o::l,acc=>masks l (acc++[(preds o).foldl (fun m p=>m|||(1<<<p)|||acc.getD p 0) 0])
def ancOk(ops:List Oper)(M:List Nat):Bool:=(List.range ops.length).all fun i=>match ops[i]? with|none=>false|some o=>decide (M.getD i 0<2^i)&&(preds o).all (fun p=>decide (p<i))&&(List.range i).all fun j=>!(M.getD i 0).testBit j||(preds o).any fun p=>p==j||(M.getD p 0).testBit j
def forced(ops:List Oper)(M:List Nat)(k:Nat):Bool:=(List.range ops.length).all fun i=>decide (i<k)||(List.range i).all fun j=>(M.getD i 0).testBit j
def fine(ops:List Oper)(n:Nat)(k:Nat):Bool:=decide (k<=ops.length)&&ancOk ops (masks ops [])&&forced ops (masks ops []) k&&(List.range k).all fun i=>match ops[i]? with|none=>false|some o=>(o.looksAt ops.toArray).all (fun t=>match writer (ops.take k) 0 t with|none=>true|some j=>(preds o).contains j)&&(match o.dst with|none=>false|some d=>decide (d<n)&&writer (ops.take k) 0 d==some i)
theorem writer_some:∀{l:List Oper}{k i:Nat}{t:Tmp},writer l k t=some i->k<=i/\∃o,l[i-k]?=some o/\o.dst=some t|[],_,_,_,h=>by simp[writer]at h|o::l,k,i,t,h=>by unfold writer at h;split at h;{simp_all};{obtain⟨h1,o',h2,h3⟩:=writer_some h;grind}
theorem writer_none:∀{l:List Oper}{k:Nat}{t:Tmp},writer l k t=none->∀o∈l,o.dst≠some t|[],_,_,_,_,h=>by cases h|o::l,k,t,h,o',ho=>by unfold writer at h;split at h;{cases h};{cases ho with|head=>omega|tail _ hm=>exact writer_none h o' hm}
theorem CZ{o:Oper}{p:Nat}:p∈preds o↔∃e∈o.after,Region.binds .any e=true/\e.on=p:=by unfold preds;constructor;{grind};grind
theorem lt_of_get{α:Type}{l:List α}{i:Nat}{o:α}(h:l[i]?=some o):i<l.length:=(ac.1 h).1
theorem ancOk_at{M:List Nat}{i:Nat}{o:Oper}(h:ancOk ops M=true)(ho:ops[i]?=some o):(∀p∈preds o,p<i)/\∀j,(M.getD i 0).testBit j=true->j<i/\∃p∈preds o,p=j\/(M.getD p 0).testBit j=true:=by have h1:=bg.1 h i (dj.2 (lt_of_get ho));simp[ho,aq]at h1;obtain⟨⟨h0,h2⟩,h3⟩:=h1;refine⟨fun p hp=>by simp_all,fun j hb=>?_⟩;(have hj:j<i:=by rcases di j i with h'|h';{omega};{have:=Nat.testBit_lt_two_pow (dg h0 (Nat.pow_le_pow_right (by simp) h'));simp_all});grind
def Closed(ops:List Oper)(listed:Array Bool):Prop:=∀i o,ops[i]?=some o->listed.getD i true=true->∀p∈preds o,listed.getD p true=true
theorem anc_listed{M:List Nat}{listed:Array Bool}(h:ancOk ops M=true)(hc:Closed ops listed):∀(i:Nat)(o:Oper),ops[i]?=some o->(∀p∈preds o,listed.getD p true=true)->∀j,(M.getD i 0).testBit j=true->listed.getD j true=true:=by intro i;induction i using Nat.strongRecOn with|ind i ih=>intro o ho hp j hb;obtain⟨h1,h2⟩:=ancOk_at h ho;obtain⟨hj,p,hpm,hpj⟩:=h2 j hb;rcases hpj with rfl|hpj;{simp_all};{have hlt:=h1 p hpm;(have hlen:p<ops.length:=by have:=lt_of_get ho;omega);have hop:=af hlen;exact ih p hlt _ hop (fun q hq=>hc p _ hop (hp p hpm) q hq) j hpj}
theorem fine_at{n k i:Nat}{o:Oper}(h:fine ops n k=true)(ho:ops[i]?=some o)(hi:i<k):(∀t∈o.looksAt ops.toArray,∀j,writer (ops.take k) 0 t=some j->j∈preds o)/\(∃d,o.dst=some d/\d<n/\writer (ops.take k) 0 d=some i):=by unfold fine at h;grind
theorem fine_le{n k:Nat}(h:fine ops n k=true):k<=ops.length:=by unfold fine at h;simp_all
theorem fine_anc{n k:Nat}(h:fine ops n k=true):ancOk ops (masks ops [])=true:=by unfold fine at h;simp_all
theorem JV{n k:Nat}(h:fine ops n k=true){i:Nat}(hi:i<ops.length)(hk:k<=i):∀j,j<i->((masks ops []).getD i 0).testBit j=true:=by unfold fine at h;simp at h;have:=bg.1 h.1.2 i (dj.2 hi);grind
theorem ready_spec{listed:Array Bool}{i:Nat}:i∈Region.ready .any ops.toArray listed↔listed.getD i true=false/\∃o,ops[i]?=some o/\∀p∈preds o,listed.getD p false=true:=by rw[mem_ready];constructor;{rintro⟨h1,o,h2,h3⟩;refine⟨h1,o,by simp_all,fun p hp=>?_⟩;obtain⟨e,he,hb,rfl⟩:=CZ.1 hp;simp_all};{rintro⟨h1,o,h2,h3⟩;exact⟨h1,o,by simp_all,fun e he hb=>h3 _ (CZ.2 ⟨e,he,hb,rfl⟩)⟩}
theorem getD_mono{listed:Array Bool}{p:Nat}(h:listed.getD p false=true):listed.getD p true=true:=by grind
theorem mK{n k:Nat}{listed:Array Bool}{i:Nat}(hf:fine ops n k=true)(hc:Closed ops listed)(hi:i∈Region.ready .any ops.toArray listed)(hk:k<=i):∀j,j<i->listed.getD j true=true:=by obtain⟨-,o,ho,hp⟩:=ready_spec.1 hi;intro j hj;exact anc_listed (fine_anc hf) hc i o ho (fun p hpm=>getD_mono (hp p hpm)) j (JV hf (lt_of_get ho) hk j hj)
theorem ready_nil{M:List Nat}{listed:Array Bool}(hsz:listed.size=ops.length)(hf:ancOk ops M=true)(hr:Region.ready .any ops.toArray listed=[]):∀j,listed.getD j true=true:=by intro j;induction j using Nat.strongRecOn with|ind j ih=>rcases di j ops.length with hj|hj;{cases hl:listed.getD j true with|true=>rfl|false=>have ho:=af hj;have:=ready_spec.2 ⟨hl,ops[j],ho,fun p hp=>by have hlt:=(ancOk_at hf ho).1 p hp;grind⟩;simp_all};simp_all
def YE(P:Program)(G:World->World->Prop)(R:Value->World->Prop)(w:World):Result Next->Prop|.ok (.value v) w'=>G w w'/\R v w'|.ok .skip w'=>G w w'/\R undef w'|.ok (.enter f args) w'=>Calls P f args w' fun e w''=>∃v,e=.returned v/\G w w''/\R v w''|_=>False
def slotFact(pre:List Oper)(F:List (Value->World->Prop))(a a':Act)(w':World)(t:Tmp):Prop:=match writer pre 0 t with|some j=>(F.getD j fun _ _=>True) (a'.tmps.getD t undef) w'|none=>a'.tmps.getD t undef=a.tmps.getD t undef
def aKr(P:Program)(G:World->World->Prop)(ops:List Oper)(k:Nat)(F:List (Value->World->Prop))(a:Act)(w:World)(i:Nat)(o:Oper):Prop:=∀(a':Act) (w':World),G w w'->a'.tmps.size=a.tmps.size->(∀t,(∀j,writer (ops.take k) 0 t=some j->j∈preds o)->slotFact (ops.take k) F a a' w' t)->if Region.wanted o (yielded ops.toArray a'.tmps)then YE P G (F.getD i fun _ _=>True) w' ((execOp a'.eval o).run P w')else(F.getD i fun _ _=>True) undef w'
def putAll(a:Act):List Oper->List Value->Act|o::l,v::vs=>putAll (a.put o.dst v) l vs|_,_=>a
def forAllV:List (Value->World->Prop)->World->(List Value->Prop)->Prop|[],_,K=>K []|R::Rs,w,K=>∀v,R v w->forAllV Rs w fun vs=>K (v::vs)
theorem AM:∀{F:List (Value->World->Prop)}{w:World}{K:List Value->Prop},forAllV F w K->∀vs,vs.length=F.length->(∀(i:Nat) (R:Value->World->Prop) (v:Value),F[i]?=some R->vs[i]?=some v->R v w)->K vs|[],_,_,h,[],_,_=>h|[],_,_,_,_::_,hl,_=>by simp_all|_::_,_,_,_,[],hl,_=>by simp_all|R::Rs,w,K,h,v::vs,hl,hR=>AM (h v (hR 0 R v rfl rfl)) vs (by simp_all) (fun i R' v' h1 h2=>hR (i+1) R' v' (by simp_all) (by simp_all))
structure Inv(G:World→World→Prop)(ops:List Oper)(k:Nat)(F:List (Value→World→Prop))(a:Act)(w:World)(listed:Array Bool)(a':Act)(w':World):Prop where
 grow:G w w'
 size:a'.tmps.size=a.tmps.size
 defers:a'.defers=a.defers
 facts:∀ j o t,j<k→ops[j]?=some o→o.dst=some t→listed.getD j true=true→(F.getD j fun _ _=>True) (a'.tmps.getD t undef) w'
 rest:∀ t,(∀ j o,j<k→ops[j]?=some o→o.dst=some t→listed.getD j true=false)→a'.tmps.getD t undef=a.tmps.getD t undef
 lsize:listed.size=ops.length
 closed:Closed ops listed
 late:∀ j,k≤j→j<ops.length→listed.getD j true=false
theorem getD_put{a:Act}{t d:Tmp}{v:Value}(hd:d<a.tmps.size):(a.put (some d) v).tmps.getD t undef=if t=d then v else a.tmps.getD t undef:=by simp[Act.put];by_cases h:t=d;{simp_all};{simp[h,fm h]}
theorem size_put{a:Act}{d:Option Tmp}{v:Value}:(a.put d v).tmps.size=a.tmps.size:=by cases d<;>simp[Act.put]
theorem defers_put{a:Act}{d:Option Tmp}{v:Value}:(a.put d v).defers=a.defers:=by cases d<;>simp[Act.put]
theorem getD_set_true{listed:Array Bool}{i j:Nat}(h:(listed.setIfInBounds i true).getD j true=false):j≠i/\listed.getD j true=false:=by simp at*;by_cases hij:i=j;{grind};grind
theorem getD_set_other{listed:Array Bool}{i j:Nat}(h:(listed.setIfInBounds i true).getD j true=true)(hj:j≠i):listed.getD j true=true:=by simp at*;grind
theorem getD_set_keeps{listed:Array Bool}{i j:Nat}(h:listed.getD j true=true):(listed.setIfInBounds i true).getD j true=true:=by cases h':(listed.setIfInBounds i true).getD j true with|true=>rfl|false=>rw[(getD_set_true h').2]at h;omega
theorem closed_set{listed:Array Bool}{i:Nat}(hc:Closed ops listed)(hi:i∈Region.ready .any ops.toArray listed):Closed ops (listed.setIfInBounds i true):=by obtain⟨-,o,ho,hp⟩:=ready_spec.1 hi;intro j oj hj hl p hpm;by_cases hji:j=i;{subst hji;obtain rfl:=ae (ho.symm.trans hj);exact getD_set_keeps (getD_mono (hp p hpm))};{exact getD_set_keeps (hc j oj hj (getD_set_other hl hji) p hpm)}
theorem take_get{k i:Nat}{o:Oper}(h:(ops.take k)[i]?=some o):ops[i]?=some o/\i<k:=by grind
theorem Inv.step{G:World->World->Prop}{k:Nat}{F:List (Value->World->Prop)}{a a':Act}{w w' w'':World}{listed:Array Bool}{i:Nat}{o:Oper}{v:Value}(hst:∀i v w1 w2,G w w1->G w1 w2->(F.getD i fun _ _=>True) v w1->(F.getD i fun _ _=>True) v w2) (htr:∀{a b c},G a b->G b c->G a c) (hf:fine ops a.tmps.size k=true) (ho:ops[i]?=some o) (hik:i<k) (hi:i∈Region.ready .any ops.toArray listed) (h:Inv G ops k F a w listed a' w') (hG:G w' w'') (hR:(F.getD i fun _ _=>True) v w''):Inv G ops k F a w (listed.setIfInBounds i true) (a'.put o.dst v) w'':=by obtain⟨-,d,hd,hdn,hdw⟩:=fine_at hf ho hik;rw[hd];(have hlt:d<a'.tmps.size:=by rw[h.size];omega);refine⟨htr h.grow hG,by rw[size_put,h.size],by rw[defers_put,h.defers],fun j oj t hjk hj ht hl=>?_,fun t ht=>?_,by simpa using h.lsize,closed_set h.closed hi,fun j hj hjl=>?_⟩;{by_cases hji:j=i;{subst hji;obtain rfl:=ae (ho.symm.trans hj);obtain rfl:=ae (hd.symm.trans ht);simp only[getD_put hlt,eg];omega};{have h1:=hst j _ w' w'' h.grow hG (h.facts j oj t hjk hj ht (getD_set_other hl hji));rw[getD_put hlt,if_neg];{omega};{intro e;obtain⟨-,d',hd',-,hdw'⟩:=fine_at hf hj hjk;simp_all}}};{have hold:=h.rest t fun j oj hjk hj hdj=>(getD_set_true (ht j oj hjk hj hdj)).2;rw[getD_put hlt,if_neg];{omega};{intro e;subst e;exact absurd rfl (getD_set_true (ht i o hik ho hd)).1}};{cases h':(listed.setIfInBounds i true).getD j true with|false=>rfl|true=>have:=getD_set_other h' (by omega);rw[h.late j hj hjl]at this;simp_all}
theorem Inv.seen{G:World->World->Prop}{k:Nat}{F:List (Value->World->Prop)}{a a':Act}{w w':World}{listed:Array Bool}{i:Nat}{o:Oper}(hf:fine ops a.tmps.size k=true) (ho:ops[i]?=some o) (hik:i<k) (hr:i∈Region.ready .any ops.toArray listed) (h:Inv G ops k F a w listed a' w'):∀t,(∀j,writer (ops.take k) 0 t=some j->j∈preds o)->slotFact (ops.take k) F a a' w' t:=by intro t h1;obtain⟨-,o',ho',hall⟩:=ready_spec.1 hr;obtain rfl:=ae (ho'.symm.trans ho);unfold slotFact;cases hw:writer (ops.take k) 0 t with|none=>refine h.rest t fun j oj hjk hj hd=>absurd hd (writer_none hw oj ?_);exact ao (by simp_all:(ops.take k)[j]?=some oj)|some j=>obtain⟨-,oj,hoj,hd⟩:=writer_some hw;obtain⟨hoj',hjk⟩:=take_get (by omega);exact h.facts j oj t hjk hoj' hd (getD_mono (hall j (h1 j hw)))
theorem size_of_getD{listed:Array Bool}{i:Nat}(hl:listed.getD i true=false):i<listed.size:=by grind
theorem count_set{listed:Array Bool}{i:Nat}(hl:listed.getD i true=false):(listed.setIfInBounds i true).toList.count false+1=listed.toList.count false:=by have hlt:=size_of_getD hl;(have hi':listed[i]=false:=by simp_all);grind
theorem count_zero{listed:Array Bool}(hc:listed.toList.count false<=0):Region.ready .any ops.toArray listed=[]:=by refine io.2 fun j hj=>?_;obtain⟨hl,-⟩:=ready_spec.1 hj;have:=count_set hl;omega
def nJ(a':Act)(ops:List Oper):List Value:=ops.map fun o=>match o.dst with|some t=>a'.tmps.getD t undef|none=>undef
theorem yM:∀(l:List Oper) (vs:List Value) (a:Act) (t:Tmp),vs.length=l.length->(∀o∈l,∀d,o.dst=some d->d<a.tmps.size)->(putAll a l vs).tmps.size=a.tmps.size/\(putAll a l vs).defers=a.defers/\((∀o∈l,o.dst≠some t)->(putAll a l vs).tmps.getD t undef=a.tmps.getD t undef)/\(∀(i:Nat) o v,l[i]?=some o->vs[i]?=some v->o.dst=some t->(∀(j:Nat) o',l[j]?=some o'->o'.dst=some t->j=i)->(putAll a l vs).tmps.getD t undef=v)|[],[],a,t,_,_=>⟨rfl,rfl,fun _=>rfl,fun i o v h=>by simp⟩|[],_::_,_,_,h,_=>by simp_all|_::_,[],_,_,h,_=>by simp_all|o::l,v::vs,a,t,hl,hd=>by have ih:=yM l vs (a.put o.dst v) t (by simp_all) (fun o' ho' d hd'=>by rw[size_put];grind);obtain⟨i1,i2,i3,i4⟩:=ih;refine⟨by rw[putAll,i1,size_put],by rw[putAll,i2,defers_put],fun hno=>?_,fun i oi vi hoi hvi hdi huniq=>?_⟩;{rw[putAll,i3 fun o' ho'=>hno o' (.tail _ ho')];cases hdd:o.dst with|none=>rfl|some d=>rw[getD_put (hd o (.head _) d hdd),if_neg];rintro rfl;simp_all};{cases i with|zero=>simp at hoi hvi;subst hoi hvi;rw[putAll,i3];{rw[hdi,getD_put (hd o (.head _) t hdi),if_pos rfl]};{intro o' ho' hd';obtain⟨k,hk⟩:=jf.1 ho';have:=huniq (k+1) o' (by simpa using hk) hd';omega}|succ i=>rw[putAll];refine i4 i oi vi (by simpa using hoi) (by simpa using hvi) hdi fun j o' hj hd'=>?_;have:=huniq (j+1) o' (by simpa using hj) hd';omega}
theorem Inv.full{G:World->World->Prop}{k:Nat}{F:List (Value->World->Prop)}{a a':Act}{w w':World}{listed:Array Bool}(hf:fine ops a.tmps.size k=true)(hlen:F.length=k) (I:Inv G ops k F a w listed a' w') (hall:∀j,j<k->listed.getD j true=true){K:Act->Prop}(hQ:forAllV F w' fun vs=>K (putAll a (ops.take k) vs)):K a':=by have hk:=fine_le hf;have hv:=AM hQ (nJ a' (ops.take k)) (by simp[nJ,hlen];omega) ?_;{(have e:putAll a (ops.take k) (nJ a' (ops.take k))=a':=by(have hd:∀o∈ops.take k,∀d,o.dst=some d->d<a.tmps.size:=fun o ho d hd=>by obtain⟨i,hi⟩:=jf.1 ho;obtain⟨hi',hik⟩:=take_get hi;obtain⟨-,d',hd',hdn,-⟩:=fine_at hf hi' hik;simp_all);have hs:=fun t=>yM (ops.take k) (nJ a' (ops.take k)) a t (by simp[nJ]) hd;(have e1:(putAll a (ops.take k) (nJ a' (ops.take k))).tmps=a'.tmps:=by refine Array.ext (by rw[(hs 0).1,I.size]) fun t h1 h2=>?_;(have hg:(putAll a (ops.take k) (nJ a' (ops.take k))).tmps.getD t undef=a'.tmps.getD t undef:=by cases hw:writer (ops.take k) 0 t with|none=>rw[(hs t).2.2.1 (writer_none hw),I.rest t fun j o hjk hj hd'=>absurd hd' (writer_none hw o (ao (by rw[gw hjk];omega:(ops.take k)[j]?=some o)))]|some i=>obtain⟨-,o,ho,hdo⟩:=writer_some hw;(have ho1:(ops.take k)[i]?=some o:=by omega);refine(hs t).2.2.2 i o _ ho1 ?_ hdo fun j o' hj hd'=>?_;{simp only[nJ,dc,ho1,db,hdo]};{obtain⟨hj',hjk⟩:=take_get hj;obtain⟨-,d',hd'',-,hw'⟩:=fine_at hf hj' hjk;simp_all});simp_all);(have e2:(putAll a (ops.take k) (nJ a' (ops.take k))).defers=a'.defers:=by rw[(hs 0).2.1,I.defers]);cases hp:putAll a (ops.take k) (nJ a' (ops.take k));simp_all);simp_all};{intro i R v hR hvi;(have hlt:i<k:=by have:=lt_of_get hR;omega);(have hio:i<ops.length:=by omega);have ho:ops[i]?=some ops[i]:=af hio;obtain⟨-,d,hd,-⟩:=fine_at hf ho hlt;have:=I.facts i ops[i] d hlt ho hd (hall i hlt);simp only[pj,hR,dh]at this;(have ho1:(ops.take k)[i]?=some ops[i]:=by simp_all);simp only[nJ,dc,ho1,db,ab,hd]at hvi;simp_all}
theorem Inv.start{G:World->World->Prop}{k:Nat}{F:List (Value->World->Prop)}{a:Act}{w w':World}(hG:G w w'):Inv G ops k F a w (Array.replicate ops.length false) a w':=⟨hG,rfl,rfl,fun j o t hj ho _ hl=>by have:=lt_of_get ho;simp_all,fun t _=>rfl,by simp,fun i o ho hl=>by have:=lt_of_get ho;simp_all,fun j _ hj=>by simp_all⟩
theorem count_start(n:Nat):(Array.replicate n false).toList.count false<=n:=by simp
structure Rec where
 looks:List (Tmp×Option Nat)
 guard:Option (Tmp×Bool)
def told(ops:List Oper)(k:Nat)(D:List Rec):Bool:=decide (D.length=k)&&(List.range k).all fun i=>match ops[i]?,D[i]? with|some o,some d=>d.looks.all (fun(t,j)=>writer (ops.take k) 0 t==j&&(match j with|none=>true|some j=>(preds o).contains j))&&(match o.guard,d.guard with|none,none=>true|some (g,b),some (t,b')=>(b==b')&&(ops[g]?).bind (·.dst)==some t|_,_=>false)|_,_=>false
def W8(F:List (Value->World->Prop))(a a':Act)(w':World):List (Tmp×Option Nat)->Prop->Prop|[],Q=>Q|(t,none)::l,Q=>a'.tmps.getD t undef=a.tmps.getD t undef->W8 F a a' w' l Q|(t,some j)::l,Q=>(F.getD j fun _ _=>True) (a'.tmps.getD t undef) w'->W8 F a a' w' l Q
def aGE(a':Act):Option (Tmp×Bool)->Prop->Prop->Prop|none,Q,_=>Q|some (t,b),Q,Q'=>∃b':Bool,a'.tmps.getD t undef=.bool b'/\(b'=b->Q)/\(b'≠b->Q')
theorem aEs{G:World->World->Prop}{R:Value->World->Prop}{i:Nat}{o:Oper}{a':Act}{w':World}{K:Act->World->Prop}{Q:Exit->Act->World->Prop}(ho:ops[i]?=some o)(hrefl:G w' w') (hgo:if Region.wanted o (yielded ops.toArray a'.tmps)then YE P G R w' ((execOp a'.eval o).run P w')else R undef w') (hK:∀v w'',G w' w''->R v w''->K (a'.put o.dst v) w''):wpOp P ops.toArray Q i K a' w':=by unfold wpOp;(have ho':ops.toArray[i]?=some o:=by simp_all);simp[ho'];split;{rename_i hw;rw[if_pos hw]at hgo;refine .inl ?_;unfold Oper.wp;generalize (execOp a'.eval o).run P w'=r at hgo⊢;cases r with|ok n w2=>cases n<;>simp[YE]at hgo<;>simp[Oper.upon];(case value v=>simp_all);(case skip=>simp_all);case enter f args=>exact hgo.mono fun e w'' ⟨v,he,hG,hR⟩=>by simp_all|halt x w2=>simp[YE]at hgo};simp_all
theorem I1{m:Nat}{o:Oper}{Q:Exit->Act->World->Prop}{a':Act}{w':World}(ho:ops[m]?=some o)(h:wpList P ops.toArray Q (ops.drop m) a' w'):wpOp P ops.toArray Q m (wpList P ops.toArray Q (ops.drop (m+1))) a' w':=by have hlt:=lt_of_get ho;(have e:ops.drop m=o::ops.drop (m+1):=by rw[gq hlt];simp_all);rw[e]at h;unfold wpOp;(have ho':ops.toArray[m]?=some o:=by simp_all);simp[ho'];exact h
theorem LV{n k:Nat}{Q:Exit->Act->World->Prop}(hf:fine ops n k=true):∀(fuel m:Nat) (listed:Array Bool) (a':Act) (w':World),k<=m->listed.size=ops.length->Closed ops listed->listed.toList.count false<=fuel->(∀j,j<m->listed.getD j true=true)->(∀j,m<=j->j<ops.length->listed.getD j true=false)->wpList P ops.toArray Q (ops.drop m) a' w'->wpAny P .any ops.toArray Q fuel listed a' w':=by(have hend:∀(m:Nat) (listed:Array Bool) (a':Act) (w':World),listed.size=ops.length->(∀j,m<=j->j<ops.length->listed.getD j true=false)->wpList P ops.toArray Q (ops.drop m) a' w'->Region.ready .any ops.toArray listed=[]->Q .normal a' w':=by intro m listed a' w' hsz hl h hr;(have hm:ops.length<=m:=by rcases di m ops.length with h'|h';{have h1:=hl m (ar _) h';rw[ready_nil hsz (fine_anc hf) hr m]at h1;cases h1};omega);rw[de hm]at h;exact h);intro fuel;induction fuel with|zero=>intro m listed a' w' hk hsz hc hcnt hlo hhi h;exact⟨count_zero hcnt,hend m listed a' w' hsz hhi h (count_zero hcnt)⟩|succ fuel ih=>intro m listed a' w' hk hsz hc hcnt hlo hhi h;refine⟨hend m listed a' w' hsz hhi h,fun i hi=>?_⟩;obtain⟨hl,o,ho,-⟩:=ready_spec.1 hi;(have him:m<=i:=by rcases di i m with h'|h';{simp_all};omega);(obtain rfl:i=m:=by rcases di m i with h'|h';{have h1:=mK hf hc hi (by omega) m h';rw[hhi m (ar _) (by have:=lt_of_get ho;omega)]at h1;cases h1};omega);refine wpOp_mono (fun a2 w2 h2=>ih (i+1) _ a2 w2 (by omega) (by simp_all) (closed_set hc hi) (by have:=count_set hl;omega) (fun j hj=>?_) (fun j hj hjl=>?_) h2) (I1 ho h);{by_cases hji:j=i;{subst hji;simp};{exact getD_set_keeps (hlo j (by omega))}};{cases h':(listed.setIfInBounds i true).getD j true with|false=>rfl|true=>have:=getD_set_other h' (by omega);rw[hhi j (by omega) hjl]at this;cases this}
theorem aS8{G:World->World->Prop}{k:Nat}{F:List (Value->World->Prop)}{Q:Exit->Act->World->Prop}{a:Act}{w:World}(hf:fine ops a.tmps.size k=true)(hlen:F.length=k) (hrefl:∀w,G w w) (htr:∀{a b c},G a b->G b c->G a c) (hst:∀i v w1 w2,G w w1->G w1 w2->(F.getD i fun _ _=>True) v w1->(F.getD i fun _ _=>True) v w2) (hop:∀i o,i<k->ops[i]?=some o->aKr P G ops k F a w i o) (hQ:∀w',G w w'->forAllV F w' fun vs=>wpList P ops.toArray Q (ops.drop k) (putAll a (ops.take k) vs) w'):∀(fuel:Nat) (listed:Array Bool) (a':Act) (w':World),listed.toList.count false<=fuel->Inv G ops k F a w listed a' w'->wpAny P .any ops.toArray Q fuel listed a' w':=by(have hend:∀(fuel:Nat) (listed:Array Bool) (a':Act) (w':World),listed.toList.count false<=fuel->Inv G ops k F a w listed a' w'->(∀j,j<k->listed.getD j true=true)->wpAny P .any ops.toArray Q fuel listed a' w':=by intro fuel listed a' w' hcnt I hall;exact LV hf fuel k listed a' w' (ar _) I.lsize I.closed hcnt hall I.late (I.full (K:=fun a'=>wpList P ops.toArray Q (ops.drop k) a' w') hf hlen hall (hQ w' I.grow)));intro fuel;induction fuel with|zero=>intro listed a' w' hcnt I;exact hend 0 listed a' w' hcnt I fun j _=>ready_nil I.lsize (fine_anc hf) (count_zero hcnt) j|succ fuel ih=>intro listed a' w' hcnt I;by_cases hall:∀j,j<k->listed.getD j true=true;{simp_all};{refine⟨fun hr=>absurd (fun j _=>ready_nil I.lsize (fine_anc hf) hr j) hall,fun i hi=>?_⟩;obtain⟨hl,o,ho,-⟩:=ready_spec.1 hi;(have hik:i<k:=by rcases di i k with h'|h';{omega};{exact absurd (fun j hj=>mK hf I.closed hi h' j (by omega)) hall});refine aEs ho (hrefl _) (hop i o hik ho a' w' I.grow I.size (I.seen hf ho hik hi)) fun v w'' hG hR=>?_;exact ih _ _ _ (by have:=count_set hl;omega) (I.step hst htr hf ho hik hi hG hR)}
theorem KZ{F:List (Value->World->Prop)}{G:World->World->Prop}{w:World}(hst:∀R∈F,∀v w1 w2,G w w1->G w1 w2->R v w1->R v w2):∀i v w1 w2,G w w1->G w1 w2->(F.getD i fun _ _=>True) v w1->(F.getD i fun _ _=>True) v w2:=by intro i v w1 w2 h1 h2 h3;rw[pj]at h3⊢;cases hi:F[i]? with|none=>simp|some R=>simp[hi]at h3⊢;exact hst R (ao hi) v w1 w2 h1 h2 h3
def Lex(P:Program)(G:World->World->Prop)(a:Act)(w:World)(K:List (Value->World->Prop)->Prop):List Oper->List Rec->List (Value->World->Prop)->Prop|o::l,d::D,F=>∃R:Value->World->Prop,(∀v w1 w2,G w w1->G w1 w2->R v w1->R v w2)/\(∀(a':Act) (w':World),G w w'->W8 F a a' w' d.looks (aGE a' d.guard (YE P G R w' ((execOp a'.eval o).run P w')) (R undef w')))/\Lex P G a w K l D (F++[R])|_,_,F=>K F
section
variable{Fe:Fence}{n:Nat}
def opOkIn(Fe:Fence)(n:Nat)(P:Program)(G:World->World->Prop)(R:Value->World->Prop)(w:World):Result Next->Prop|.ok (.value v) w'=>G w w'/\R v w'|.ok .skip w'=>G w w'/\R undef w'|.ok (.enter f args) w'=>CallsIn Fe (n-1) P f args w' fun e w''=>∃v,e=.returned v/\G w w''/\R v w''|_=>False
def JY(Fe:Fence)(n:Nat)(P:Program)(G:World->World->Prop)(ops:List Oper)(k:Nat)(F:List (Value->World->Prop))(a:Act)(w:World)(i:Nat)(o:Oper):Prop:=∀(a':Act) (w':World),G w w'->a'.tmps.size=a.tmps.size->(∀t,(∀j,writer (ops.take k) 0 t=some j->j∈preds o)->slotFact (ops.take k) F a a' w' t)->if Region.wanted o (yielded ops.toArray a'.tmps)then opOkIn Fe n P G (F.getD i fun _ _=>True) w' ((o.semAt Fe.round a'.eval).run P w')else(F.getD i fun _ _=>True) undef w'
theorem wpOpIn_ok{G:World->World->Prop}{R:Value->World->Prop}{i:Nat}{o:Oper}{a':Act}{w':World}{K:Act->World->Prop}{Q:Exit->Act->World->Prop}(hFn:∀f,Fe.fn f)(hFd:Fe.depth=none)(ho:ops[i]?=some o)(hrefl:G w' w') (hgo:if Region.wanted o (yielded ops.toArray a'.tmps)then opOkIn Fe n P G R w' ((o.semAt Fe.round a'.eval).run P w')else R undef w') (hK:∀v w'',G w' w''->R v w''->K (a'.put o.dst v) w''):wpOpIn Fe n P ops.toArray Q i K a' w':=by unfold wpOpIn;(have ho':ops.toArray[i]?=some o:=by simp_all);simp[ho'];split;{rename_i hw;rw[if_pos hw]at hgo;refine⟨fun f _=>hFn f,?_⟩;generalize (o.semAt Fe.round a'.eval).run P w'=r at hgo⊢;cases r with|ok n w2=>cases n<;>simp[opOkIn]at hgo<;>simp[Oper.uponIn];(case value v=>simp_all);(case skip=>simp_all);case enter f args=>exact⟨(fun h=>(by simp_all)),hgo.mono fun e w'' ⟨v,he,hG,hR⟩=>by simp_all⟩|halt x w2=>simp[opOkIn]at hgo};simp_all
theorem CE{m:Nat}{o:Oper}{Q:Exit->Act->World->Prop}{a':Act}{w':World}(ho:ops[m]?=some o)(h:wpListIn Fe n P ops.toArray Q (ops.drop m) a' w'):wpOpIn Fe n P ops.toArray Q m (wpListIn Fe n P ops.toArray Q (ops.drop (m+1))) a' w':=by have hlt:=lt_of_get ho;(have e:ops.drop m=o::ops.drop (m+1):=by rw[gq hlt];simp_all);rw[e]at h;unfold wpOpIn;(have ho':ops.toArray[m]?=some o:=by simp_all);simp[ho'];exact h
theorem GP{N k:Nat}{Q:Exit->Act->World->Prop}(hf:fine ops N k=true):∀(fuel m:Nat) (listed:Array Bool) (a':Act) (w':World),k<=m->listed.size=ops.length->Closed ops listed->listed.toList.count false<=fuel->(∀j,j<m->listed.getD j true=true)->(∀j,m<=j->j<ops.length->listed.getD j true=false)->wpListIn Fe n P ops.toArray Q (ops.drop m) a' w'->wpAnyIn Fe n P .any ops.toArray Q fuel listed a' w':=by(have hend:∀(m:Nat) (listed:Array Bool) (a':Act) (w':World),listed.size=ops.length->(∀j,m<=j->j<ops.length->listed.getD j true=false)->wpListIn Fe n P ops.toArray Q (ops.drop m) a' w'->Region.ready .any ops.toArray listed=[]->Q .normal a' w':=by intro m listed a' w' hsz hl h hr;(have hm:ops.length<=m:=by rcases di m ops.length with h'|h';{have h1:=hl m (ar _) h';rw[ready_nil hsz (fine_anc hf) hr m]at h1;cases h1};omega);rw[de hm]at h;exact h);intro fuel;induction fuel with|zero=>intro m listed a' w' hk hsz hc hcnt hlo hhi h;exact⟨count_zero hcnt,hend m listed a' w' hsz hhi h (count_zero hcnt)⟩|succ fuel ih=>intro m listed a' w' hk hsz hc hcnt hlo hhi h;refine⟨hend m listed a' w' hsz hhi h,fun i hi=>?_⟩;obtain⟨hl,o,ho,-⟩:=ready_spec.1 hi;(have him:m<=i:=by rcases di i m with h'|h';{simp_all};omega);(obtain rfl:i=m:=by rcases di m i with h'|h';{have h1:=mK hf hc hi (by omega) m h';rw[hhi m (ar _) (by have:=lt_of_get ho;omega)]at h1;cases h1};omega);refine wpOpIn_mono (fun a2 w2 h2=>ih (i+1) _ a2 w2 (by omega) (by simp_all) (closed_set hc hi) (by have:=count_set hl;omega) (fun j hj=>?_) (fun j hj hjl=>?_) h2) (CE ho h);{by_cases hji:j=i;{subst hji;simp};{exact getD_set_keeps (hlo j (by omega))}};{cases h':(listed.setIfInBounds i true).getD j true with|false=>rfl|true=>have:=getD_set_other h' (by omega);rw[hhi j (by omega) hjl]at this;cases this}
theorem H6(hFn:∀f,Fe.fn f)(hFd:Fe.depth=none){G:World->World->Prop}{k:Nat}{F:List (Value->World->Prop)}{Q:Exit->Act->World->Prop}{a:Act}{w:World}(hf:fine ops a.tmps.size k=true)(hlen:F.length=k) (hrefl:∀w,G w w) (htr:∀{a b c},G a b->G b c->G a c) (hst:∀i v w1 w2,G w w1->G w1 w2->(F.getD i fun _ _=>True) v w1->(F.getD i fun _ _=>True) v w2) (hop:∀i o,i<k->ops[i]?=some o->JY Fe n P G ops k F a w i o) (hQ:∀w',G w w'->forAllV F w' fun vs=>wpListIn Fe n P ops.toArray Q (ops.drop k) (putAll a (ops.take k) vs) w'):∀(fuel:Nat) (listed:Array Bool) (a':Act) (w':World),listed.toList.count false<=fuel->Inv G ops k F a w listed a' w'->wpAnyIn Fe n P .any ops.toArray Q fuel listed a' w':=by(have hend:∀(fuel:Nat) (listed:Array Bool) (a':Act) (w':World),listed.toList.count false<=fuel->Inv G ops k F a w listed a' w'->(∀j,j<k->listed.getD j true=true)->wpAnyIn Fe n P .any ops.toArray Q fuel listed a' w':=by intro fuel listed a' w' hcnt I hall;exact GP hf fuel k listed a' w' (ar _) I.lsize I.closed hcnt hall I.late (I.full (K:=fun a'=>wpListIn Fe n P ops.toArray Q (ops.drop k) a' w') hf hlen hall (hQ w' I.grow)));intro fuel;induction fuel with|zero=>intro listed a' w' hcnt I;exact hend 0 listed a' w' hcnt I fun j _=>ready_nil I.lsize (fine_anc hf) (count_zero hcnt) j|succ fuel ih=>intro listed a' w' hcnt I;by_cases hall:∀j,j<k->listed.getD j true=true;{simp_all};{refine⟨fun hr=>absurd (fun j _=>ready_nil I.lsize (fine_anc hf) hr j) hall,fun i hi=>?_⟩;obtain⟨hl,o,ho,-⟩:=ready_spec.1 hi;(have hik:i<k:=by rcases di i k with h'|h';{omega};{exact absurd (fun j hj=>mK hf I.closed hi h' j (by omega)) hall});refine wpOpIn_ok hFn hFd ho (hrefl _) (hop i o hik ho a' w' I.grow I.size (I.seen hf ho hik hi)) fun v w'' hG hR=>?_;exact ih _ _ _ (by have:=count_set hl;omega) (I.step hst htr hf ho hik hi hG hR)}
theorem wpIn_region_rel(hFn:∀f,Fe.fn f)(hFd:Fe.depth=none){id:Nat}{Q:Exit->Act->World->Prop}{a:Act}{w:World}(k:Nat)(G:World->World->Prop)(F:List (Value->World->Prop))(hm:P.follows .mixedOrders=true) (hf:fine ops a.tmps.size k=true) (hlen:F.length=k) (hrefl:∀w,G w w) (htr:∀{a b c},G a b->G b c->G a c) (hdrew:G w w.drew) (hst:∀R∈F,∀v w1 w2,G w w1->G w1 w2->R v w1->R v w2) (hop:∀i o,i<k->ops[i]?=some o->JY Fe n P G ops k F a w i o) (hQ:∀w',G w w'->forAllV F w' fun vs=>wpListIn Fe n P ops.toArray Q (ops.drop k) (putAll a (ops.take k) vs) w'):(Code.region id ops.toArray true).wpIn Fe n P Q a w:=by refine wpIn_region_any hm ?_;have:=H6 hFn hFd hf hlen hrefl htr (KZ hst) hop hQ _ _ _ _ (count_start ops.length) (Inv.start hdrew);simp_all
end
end Go.Proofs.YtfkegfjggibdhaaGreatDoor.Rel
namespace Go.Proofs.YtfkegfjggibdhaaGreatDoor.Ev
open Go Go.RowKit
structure MOp where
 dst:Option Nat
 op:Op
 guard:Option (Nat×Bool)
inductive M where
 |skip
 |reg (keep:List Nat) (ops:List MOp) (free:Nat)
 |ops (ops:List MOp)
 |again (ops:List MOp)
 |seq (a b:M)
 |cond (c:Operand) (a b:M)
 |block (id:Nat) (a:M)
 |loop (a:M)
 |rf (g:Operand) (nt:Nat) (ps sl:List Nat) (a b:M)
 |exit (id:Nat)
 |ret
 |bad
inductive A where
 |v (x:Value)
 |agg (cs:List A)
 |tup (vs:List A)
 |ptr (b off:Nat)
 |ref (b off len sz:Nat)
 |sl (len:Nat) (cs:List A)
 |fp (cs:List A)
 |mp (b:Nat)
 |mf (cs:List A)
 |clo (f:FuncId) (fs caps:List A)
 |yl (b:Nat)
 |lrec (nt:Nat) (ps sl:List Nat) (a b:M)
 |it (b:Nat)
 |its (s:ByteArray) (pos:Nat)
instance:Inhabited A:=⟨.v undef⟩
structure Blk where
 e:TypeId
 cs:List A
 whole:Bool
abbrev aF:=List (Option Blk)
structure GD where
 tab:Nat→Option (List Value)
 lk:Nat→List Nat→List Nat→M→M→Loop→Prop
 ifs:Nat→Bool:=fun _=>false
def qR(w:World)(g off:Nat)(xs:List Value):Prop:=∀(i:Nat) x,xs[i]?=some x->w.cell? ⟨g,off+i,none⟩=some x
def gK(es:List MapEntry):List Value:=es.flatMap fun e=>[e.key,e.val]
mutual
def R(ρ:List Nat)(own:Nat→Prop)(w:World):A→Value→Prop
 |.v x,y=>y=x
 |.agg cs,y=>∃ xs:List Value,y=.agg xs.toArray∧RL ρ own w cs xs
 |.tup cs,y=>∃ xs:List Value,y=.tuple xs.toArray∧RL ρ own w cs xs
 |.ptr b off,y=>∃ g,ρ[b]?=some g∧y=.pointer (some ⟨g,off,none⟩)∧∃ cur e fz,w.heap[g]?=some (.cells cur e fz)
 |.ref b off len sz,y=>∃ g cap cur e fz,ρ[b]?=some g∧y=.slice (some ⟨g,off,none⟩) len cap∧len≤cap∧cap≤maxLen∧w.heap[g]?=some (.cells cur e fz)∧off+cap*sz≤cur.size
 |.sl len cs,y=>(len=0∧cs=[]∧∃ a cap,y=.slice a 0 cap)∨∃ g off cap xs,y=.slice (some ⟨g,off,none⟩) len cap∧len≤cap∧g<w.heap.size∧¬ own g∧RL [] own w cs xs∧qR w g off xs
 |.fp cs,y=>∃ g off xs,y=.pointer (some ⟨g,off,none⟩)∧g<w.heap.size∧¬ own g∧RL [] own w cs xs∧qR w g off xs
 |.mp b,y=>∃ g,ρ[b]?=some g∧y=.map (some g)∧∃ es n,w.heap[g]?=some (.map es n)
 |.mf cs,y=>(cs=[]∧y=.map none)∨∃ g es n,y=.map (some g)∧g<w.heap.size∧¬ own g∧w.heap[g]?=some (.map es n)∧RL [] own w cs (gK es.toList)
 |.clo f fs caps,y=>∃ xs ys:List Value,y=.func (.func f) xs.toArray ys.toArray∧RL ρ own w fs xs∧RL ρ own w caps ys
 |.yl b,y=>∃ g,ρ[b]?=some g∧y=.func (.yield g) #[] #[]∧∃ r,w.heap[g]?=some (.loop r)
 |.lrec _ _ _ _ _,_=>False
 |.it b,y=>∃ g,ρ[b]?=some g∧y=.pointer (some ⟨g,0,none⟩)∧∃ s p,w.heap[g]?=some (.stringIter s p)
 |.its _ _,_=>False
def RL(ρ:List Nat)(own:Nat→Prop)(w:World):List A→List Value→Prop
 |[],ys=>ys=[]
 |c::cs,ys=>∃ x xs,ys=x::xs∧R ρ own w c x∧RL ρ own w cs xs
end
theorem RL.length{ρ:List Nat}{own:Nat->Prop}{w:World}:∀{cs:List A}{ys:List Value},RL ρ own w cs ys->ys.length=cs.length|[],_,h=>by rw[RL]at h;simp[h]|_::cs,_,h=>by obtain⟨x,xs,rfl,-,h2⟩:=h;simp[RL.length h2]
theorem RL.get{ρ:List Nat}{own:Nat->Prop}{w:World}:∀{cs:List A}{ys:List Value},RL ρ own w cs ys->∀(i:Nat) c,cs[i]?=some c->∃y,ys[i]?=some y/\R ρ own w c y|[],_,h,i,c,hc=>by simp_all|c0::cs,_,h,i,c,hc=>by obtain⟨x,xs,rfl,h1,h2⟩:=h;cases i with|zero=>simp_all|succ i=>simpa using RL.get h2 i c (by simp_all)
theorem RL.cons{ρ:List Nat}{own:Nat->Prop}{w:World}{c:A}{cs:List A}{x:Value}{xs:List Value}(h:R ρ own w c x)(h':RL ρ own w cs xs):RL ρ own w (c::cs) (x::xs):=by exact⟨x,xs,rfl,h,h'⟩
theorem RL.nil{ρ:List Nat}{own:Nat->Prop}{w:World}:RL ρ own w [] []:=by rw[RL]
theorem RL.append{ρ:List Nat}{own:Nat->Prop}{w:World}:∀{cs ds:List A}{xs ys:List Value},RL ρ own w cs xs->RL ρ own w ds ys->RL ρ own w (cs++ds) (xs++ys)|[],_,_,_,h,h'=>by rw[RL]at h;simp_all|c::cs,_,_,_,h,h'=>by obtain⟨x,xs,rfl,h1,h2⟩:=h;exact RL.cons h1 (RL.append h2 h')
theorem RL.take{ρ:List Nat}{own:Nat->Prop}{w:World}:∀{cs:List A}{xs:List Value}(n:Nat),RL ρ own w cs xs->RL ρ own w (cs.take n) (xs.take n)|_,_,0,_=>by simpa using RL.nil|[],_,n+1,h=>by subst h;simpa using RL.nil|c::cs,_,n+1,h=>by obtain⟨x,xs,rfl,h1,h2⟩:=h;exact RL.cons h1 (RL.take n h2)
theorem RL.drop{ρ:List Nat}{own:Nat->Prop}{w:World}:∀{cs:List A}{xs:List Value}(n:Nat),RL ρ own w cs xs->RL ρ own w (cs.drop n) (xs.drop n)|_,_,0,h=>h|[],_,n+1,h=>by subst h;simpa using RL.nil|c::cs,_,n+1,h=>by obtain⟨x,xs,rfl,h1,h2⟩:=h;simpa using RL.drop n h2
theorem RL.exact{ρ:List Nat}{own:Nat->Prop}{w:World}:∀(xs:List Value),RL ρ own w (xs.map A.v) xs|[]=>RL.nil|_::xs=>RL.cons (by rw[R]) (RL.exact xs)
theorem qR.take{w:World}{g off:Nat}{xs:List Value}(h:qR w g off xs)(n:Nat):qR w g off (xs.take n):=fun i x hx=>h i x (by grind)
theorem qR.drop{w:World}{g off:Nat}{xs:List Value}(h:qR w g off xs)(n:Nat):qR w g (off+n) (xs.drop n):=fun i x hx=>by rw[oh]at hx;have:=h (n+i) x hx;grind
def img(ρ:List Nat)(H:aF)(g:Nat):Prop:=∃(b:Nat) (k:Blk),H[b]?=some (some k)/\ρ[b]?=some g
structure Cfg where
 ρ:List Nat
 own:Nat→Prop
 H:aF
 w:World
def Gl(Gd:GD)(own:Nat->Prop)(w:World):Prop:=(∀g xs,Gd.tab g=some xs->¬own g/\g<w.heap.size/\qR w g 0 xs/\∃e fz,w.heap[g]?=some (.cells xs.toArray e fz))/\∀g,Gd.ifs g=true->¬own g/\g<w.heap.size/\∃t p,w.cell? ⟨g,0,none⟩=some (.iface t p)
theorem Gl.less{Gd:GD}{own own':Nat->Prop}{w:World}(h:Gl Gd own w)(k:∀g,own' g->own g):Gl Gd own' w:=⟨fun g xs hg=>let⟨h1,h2,h3⟩:=h.1 g xs hg;⟨fun h=>h1 (k g h),h2,h3⟩,fun g hg=>let⟨h1,h2,h3⟩:=h.2 g hg;⟨fun h=>h1 (k g h),h2,h3⟩⟩
variable{Gd:GD}
def stV:LoopState->Value|.ready=>.int .i64 0|.busy=>.int .i64 1|.done=>.int .i64 2|.exhausted=>.int .i64 3
def peV:Option Code->Value|none=>.int .i64 0|some .ret=>.int .i64 1|some (.exit id)=>.int .i64 (id+2)|some _=>.nilIface
def aFG(sl:List Nat)(r:Loop):List Value:=stV r.state::peV r.pending::sl.map fun s=>r.tmps.getD s undef
def B1(es:Array MapEntry)(n:Nat):Prop:=n=es.size/\∀(i:Nat) e,es[i]?=some e->e.born=i
def VA(Gd:GD)(ρ:List Nat)(own:Nat->Prop)(w:World)(e:TypeId)(cs:List A)(wh:Bool)(g:Nat):Prop:=(∃cur xs,w.heap[g]?=some (.cells cur e (0,0))/\RL ρ own w cs xs/\xs<+:cur.toList/\(wh=true->cur.size=cs.length))\/(∃es n,w.heap[g]?=some (.map es n)/\RL ρ own w cs (gK es.toList)/\B1 es n)\/(∃r nt ps sl a b rest,w.heap[g]?=some (.loop r)/\cs=.lrec nt ps sl a b::rest/\Gd.lk nt ps sl a b r/\RL ρ own w rest (aFG sl r))\/(∃s p,w.heap[g]?=some (.stringIter s p)/\cs=[.its s p])
structure Ok(Gd:GD)(c:Cfg):Prop where
 len:c.ρ.length=c.H.length
 lt:∀ g,c.own g→g<c.w.heap.size
 img:∀ g,img c.ρ c.H g→c.own g
 blk:∀(b:Nat) e cs wh (g:Nat),c.H[b]?=some (some ⟨e,cs,wh⟩)→c.ρ[b]?=some g→VA Gd c.ρ c.own c.w e cs wh g
 inj:∀(b b':Nat) k k' (g:Nat),c.H[b]?=some (some k)→c.H[b']?=some (some k')→c.ρ[b]?=some g→c.ρ[b']?=some g→b=b'
 glob:Gl Gd c.own c.w
def jG:Obj->Nat|.loop _=>1|.stringIter _ _=>2|.mapIter _ _ _ _=>3|_=>0
theorem AI{o:Obj}(h:jG o=1):∃r,o=.loop r:=by cases o<;>simp[jG]at h;simp
theorem OA{o:Obj}(h:jG o=2):∃s p,o=.stringIter s p:=by cases o<;>simp[jG]at h;simp
structure To(c c':Cfg):Prop where
 pre:c.ρ <+: c'.ρ
 size:c.w.heap.size≤c'.w.heap.size
 os:c'.w.os=c.w.os
 tape:c'.w.tape=c.w.tape
 output:c'.w.output=c.w.output
 img:∀ g,g<c.w.heap.size→Ev.img c'.ρ c'.H g→Ev.img c.ρ c.H g
 same:∀ g,g<c.w.heap.size→¬ Ev.img c.ρ c.H g→c'.w.heap[g]?=c.w.heap[g]?
 shape:∀(g:Nat) (cur:Array Value) (e:TypeId) (fz:Nat×Nat),c.w.heap[g]?=some (.cells cur e fz)→∃(cur':Array Value) (fz':Nat×Nat),c'.w.heap[g]?=some (.cells cur' e fz')∧cur'.size=cur.size
 maps:∀(g:Nat) es n,c.w.heap[g]?=some (.map es n)→∃ es' n',c'.w.heap[g]?=some (.map es' n')
 kinds:∀(g:Nat) o,c.w.heap[g]?=some o→jG o≠0→∃ o',c'.w.heap[g]?=some o'∧jG o'=jG o
 own:∀ g,g<c.w.heap.size→(c'.own g→c.own g)∧(c.own g→c'.own g∨Ev.img c.ρ c.H g)
theorem To.refl(c:Cfg):To c c:=⟨ej,ar _,rfl,rfl,rfl,fun _ _ h=>h,fun _ _ _=>rfl,fun _ cur _ fz h=>⟨cur,fz,h,rfl⟩,fun _ es n h=>⟨es,n,h⟩,fun _ o h _=>⟨o,h,rfl⟩,fun _ _=>⟨id,.inl⟩⟩
theorem To.trans{a b c:Cfg}(h:To a b)(k:To b c):To a c:=⟨h.pre.trans k.pre,gp h.size k.size,k.os.trans h.os,k.tape.trans h.tape,k.output.trans h.output,fun g hg hi=>h.img g hg (k.img g (dg hg h.size) hi),fun g hg hn=>(k.same g (dg hg h.size) (fun hi=>hn (h.img g hg hi))).trans (h.same g hg hn),fun g cur e fz hc=>let⟨c1,f1,h1,h2⟩:=h.shape g cur e fz hc;let⟨c2,f2,h3,h4⟩:=k.shape g c1 e f1 h1;⟨c2,f2,h3,h4.trans h2⟩,fun g es n hc=>let⟨es1,n1,h1⟩:=h.maps g es n hc;k.maps g es1 n1 h1,fun g o hc h0=>let⟨o1,h1,h2⟩:=h.kinds g o hc h0;let⟨o2,h3,h4⟩:=k.kinds g o1 h1 (by omega);⟨o2,h3,h4.trans h2⟩,fun g hg=>⟨fun hc=>(h.own g hg).1 ((k.own g (dg hg h.size)).1 hc),fun ha=>((h.own g hg).2 ha).elim (fun hb=>((k.own g (dg hg h.size)).2 hb).imp_right (h.img g hg)) .inr⟩⟩
theorem jO{ρ ρ':List Nat}(h:ρ<+:ρ'){b g:Nat}(hb:ρ[b]?=some g):ρ'[b]?=some g:=by obtain⟨t,rfl⟩:=h;grind
structure jZ(ρ:List Nat)(own:Nat→Prop)(w:World)(ρ':List Nat)(own':Nat→Prop)(w':World):Prop where
 pre:ρ <+: ρ'
 size:w.heap.size≤w'.heap.size
 free:∀ g,g<w.heap.size→¬ own g→¬ own' g∧w'.heap[g]?=w.heap[g]?
 shape:∀(g:Nat) (cur:Array Value) (e:TypeId) (fz:Nat×Nat),w.heap[g]?=some (.cells cur e fz)→∃(cur':Array Value) (fz':Nat×Nat),w'.heap[g]?=some (.cells cur' e fz')∧cur'.size=cur.size
 maps:∀(g:Nat) es n,w.heap[g]?=some (.map es n)→∃ es' n',w'.heap[g]?=some (.map es' n')
 kinds:∀(g:Nat) o,w.heap[g]?=some o→jG o≠0→∃ o',w'.heap[g]?=some o'∧jG o'=jG o
theorem jZ.shut{ρ ρ':List Nat}{own own':Nat->Prop}{w w':World}(k:jZ ρ own w ρ' own' w'):jZ [] own w [] own' w':=⟨ej,k.size,k.free,k.shape,k.maps,k.kinds⟩
theorem jZ.loop{ρ ρ':List Nat}{own own':Nat->Prop}{w w':World}(k:jZ ρ own w ρ' own' w'){g:Nat}{r:Loop}(h:w.heap[g]?=some (.loop r)):∃r',w'.heap[g]?=some (.loop r'):=by obtain⟨o,h1,h2⟩:=k.kinds g _ h (by simp[jG]);obtain⟨r',rfl⟩:=AI h2;simp_all
theorem jZ.iter{ρ ρ':List Nat}{own own':Nat->Prop}{w w':World}(k:jZ ρ own w ρ' own' w'){g:Nat}{s:ByteArray}{p:Nat}(h:w.heap[g]?=some (.stringIter s p)):∃s' p',w'.heap[g]?=some (.stringIter s' p'):=by obtain⟨o,h1,h2⟩:=k.kinds g _ h (by simp[jG]);obtain⟨s',p',rfl⟩:=OA h2;simp_all
theorem To.loop{c c':Cfg}(k:To c c'){g:Nat}{r:Loop}(h:c.w.heap[g]?=some (.loop r)):∃r',c'.w.heap[g]?=some (.loop r'):=by obtain⟨o,h1,h2⟩:=k.kinds g _ h (by simp[jG]);obtain⟨r',rfl⟩:=AI h2;simp_all
theorem qR.keep{ρ ρ':List Nat}{own own':Nat->Prop}{w w':World}(k:jZ ρ own w ρ' own' w'){g off:Nat}{xs:List Value}(hg:g<w.heap.size)(ho:¬own g)(h:qR w g off xs):qR w' g off xs:=fun i x hx=>(World.cell?_of_block (k.free g hg ho).2).trans (h i x hx)
mutual
theorem R.keep{ρ ρ':List Nat}{own own':Nat→Prop}{w w':World}(k:jZ ρ own w ρ' own' w'):∀(a:A) (y:Value),R ρ own w a y→R ρ' own' w' a y
 |.v x,y,h=>by rw[R]at *;omega
 |.agg cs,y,h=>by
  rw[R]at *
  obtain⟨xs,h1,h2⟩:=h
  exact⟨xs,h1,RL.keep k cs xs h2⟩
 |.tup cs,y,h=>by
  rw[R]at *
  obtain⟨xs,h1,h2⟩:=h
  exact⟨xs,h1,RL.keep k cs xs h2⟩
 |.ptr b off,y,h=>by
  rw[R]at *
  obtain⟨g,h1,h2,cur,e,fz,h3⟩:=h
  obtain⟨cur',fz',h4,-⟩:=k.shape g cur e fz h3
  exact⟨g,jO k.pre h1,h2,cur',e,fz',h4⟩
 |.ref b off len sz,y,h=>by
  rw[R]at *
  obtain⟨g,cap,cur,e,fz,h1,h2,h3,h4,h5,h6⟩:=h
  obtain⟨cur',fz',h7,h8⟩:=k.shape g cur e fz h5
  exact⟨g,cap,cur',e,fz',jO k.pre h1,h2,h3,h4,h7,h8▸h6⟩
 |.sl len cs,y,h=>by
  rw[R]at *
  rcases h with h|⟨g,off,cap,xs,h1,h0,h2,h3,h4,h5⟩
  ·simp_all
  ·exact .inr ⟨g,off,cap,xs,h1,h0,dg h2 k.size,(k.free g h2 h3).1,RL.keep k.shut cs xs h4,h5.keep k h2 h3⟩
 |.fp cs,y,h=>by
  rw[R]at *
  obtain⟨g,off,xs,h1,h2,h3,h4,h5⟩:=h
  exact⟨g,off,xs,h1,dg h2 k.size,(k.free g h2 h3).1,RL.keep k.shut cs xs h4,h5.keep k h2 h3⟩
 |.mp b,y,h=>by
  rw[R]at *
  obtain⟨g,h1,h2,es,n,h3⟩:=h
  obtain⟨es',n',h4⟩:=k.maps g es n h3
  exact⟨g,jO k.pre h1,h2,es',n',h4⟩
 |.mf cs,y,h=>by
  rw[R]at *
  rcases h with h|⟨g,es,n,h1,h2,h3,h4,h5⟩
  ·simp_all
  ·exact .inr ⟨g,es,n,h1,dg h2 k.size,(k.free g h2 h3).1,(k.free g h2 h3).2.trans h4,RL.keep k.shut cs _ h5⟩
 |.clo f fs caps,y,h=>by
  rw[R]at *
  obtain⟨xs,ys,h1,h2,h3⟩:=h
  exact⟨xs,ys,h1,RL.keep k fs xs h2,RL.keep k caps ys h3⟩
 |.yl b,y,h=>by
  rw[R]at *
  obtain⟨g,h1,h2,r,h3⟩:=h
  obtain⟨r',h4⟩:=k.loop h3
  exact⟨g,jO k.pre h1,h2,r',h4⟩
 |.lrec nt ps sl a b,y,h=>by
  rw[R]at h
  simp_all
 |.it b,y,h=>by
  rw[R]at *
  obtain⟨g,h1,h2,s,p,h3⟩:=h
  obtain⟨s',p',h4⟩:=k.iter h3
  exact⟨g,jO k.pre h1,h2,s',p',h4⟩
 |.its s p,y,h=>by
  rw[R]at h
  simp_all
theorem RL.keep{ρ ρ':List Nat}{own own':Nat→Prop}{w w':World}(k:jZ ρ own w ρ' own' w'):∀(cs:List A) (ys:List Value),RL ρ own w cs ys→RL ρ' own' w' cs ys
 |[],ys,h=>by rw[RL]at *;omega
 |c::cs,ys,h=>by
  rw[RL]at *
  obtain⟨x,xs,h1,h2,h3⟩:=h
  exact⟨x,xs,h1,R.keep k c x h2,RL.keep k cs xs h3⟩
end
theorem To.keeps{c c':Cfg}(h:To c c')(ok:Ok Gd c):jZ c.ρ c.own c.w c'.ρ c'.own c'.w:=⟨h.pre,h.size,fun g hg ho=>⟨fun ho'=>ho ((h.own g hg).1 ho'),h.same g hg fun hi=>ho (ok.img g hi)⟩,h.shape,h.maps,h.kinds⟩
theorem R.to{c c':Cfg}(h:To c c')(ok:Ok Gd c){a:A}{y:Value}(hr:R c.ρ c.own c.w a y):R c'.ρ c'.own c'.w a y:=R.keep (h.keeps ok) a y hr
theorem RL.to{c c':Cfg}(h:To c c')(ok:Ok Gd c){a:List A}{y:List Value}(hr:RL c.ρ c.own c.w a y):RL c'.ρ c'.own c'.w a y:=RL.keep (h.keeps ok) a y hr
theorem VA.keep{ρ ρ':List Nat}{own own':Nat->Prop}{w w':World}(k:jZ ρ own w ρ' own' w'){e:TypeId}{cs:List A}{wh:Bool}{g:Nat}(hs:w'.heap[g]?=w.heap[g]?)(h:VA Gd ρ own w e cs wh g):VA Gd ρ' own' w' e cs wh g:=by rcases h with⟨cur,xs,h1,h2,h3,h4⟩|⟨es,n,h1,h2,h3⟩|⟨r,nt,ps,sl,a,b,rest,h1,h2,h3,h4⟩|⟨s,p,h1,h2⟩;{exact .inl ⟨cur,xs,hs.trans h1,RL.keep k _ _ h2,h3,h4⟩};{exact .inr (.inl ⟨es,n,hs.trans h1,RL.keep k _ _ h2,h3⟩)};{exact .inr (.inr (.inl ⟨r,nt,ps,sl,a,b,rest,hs.trans h1,h2,h3,RL.keep k _ _ h4⟩))};{exact .inr (.inr (.inr ⟨s,p,hs.trans h1,h2⟩))}
theorem Ok.cells{c:Cfg}(ok:Ok Gd c){b:Nat}{e:TypeId}{cs:List A}{wh:Bool}{g:Nat}(hb:c.H[b]?=some (some ⟨e,cs,wh⟩))(hg:c.ρ[b]?=some g){cur0:Array Value}{e0:TypeId}{fz0:Nat×Nat}(hc:c.w.heap[g]?=some (.cells cur0 e0 fz0)):∃cur xs,c.w.heap[g]?=some (.cells cur e (0,0))/\RL c.ρ c.own c.w cs xs/\xs<+:cur.toList/\(wh=true->cur.size=cs.length):=by rcases ok.blk b e cs wh g hb hg with h|⟨es,n,h1,-⟩|⟨r,nt,ps,sl,a,b,rest,h1,-⟩|⟨s,p,h1,-⟩;{omega};{simp_all};{simp_all};simp_all
theorem Ok.lt_blk{c:Cfg}(ok:Ok Gd c){b:Nat}{k:Blk}{g:Nat}(hb:c.H[b]?=some (some k))(hg:c.ρ[b]?=some g):g<c.w.heap.size:=ok.lt g (ok.img g ⟨b,k,hb,hg⟩)
theorem Gl.keep{ρ ρ':List Nat}{own own':Nat->Prop}{w w':World}(k:jZ ρ own w ρ' own' w')(h:Gl Gd own w):Gl Gd own' w':=by refine⟨fun g xs hg=>?_,fun g hg=>?_⟩;{obtain⟨h1,h2,h3,e,fz,h4⟩:=h.1 g xs hg;exact⟨(k.free g h2 h1).1,dg h2 k.size,h3.keep k h2 h1,e,fz,(k.free g h2 h1).2.trans h4⟩};{obtain⟨h1,h2,t,p,h3⟩:=h.2 g hg;exact⟨(k.free g h2 h1).1,dg h2 k.size,t,p,(World.cell?_of_block (k.free g h2 h1).2).trans h3⟩}
theorem To.glob{c c':Cfg}(h:To c c')(ok:Ok Gd c):Gl Gd c'.own c'.w:=ok.glob.keep (h.keeps ok)
theorem To.drew(c:Cfg):To c {c with w:=c.w.drew}:=⟨ej,ar _,rfl,rfl,rfl,fun _ _ h=>h,fun _ _ _=>rfl,fun _ cur _ fz h=>⟨cur,fz,h,rfl⟩,fun _ es n h=>⟨es,n,h⟩,fun _ o h _=>⟨o,h,rfl⟩,fun _ _=>⟨id,.inl⟩⟩
inductive K where
 |bool
 |int (k:IntKind)
 |str
 |ptr (e:TypeId)
 |slice (e:TypeId)
 |array (n:Nat) (e:TypeId)
 |struct (fs:List (TypeId×Nat×Bool))
 |map (k e:TypeId)
 |func
 |other
structure Ty where
 k:K
 size:Nat
 bytes:Nat
 zero:List Value
 plain:Bool
structure Tb where
 ty:TypeId→Option Ty
 gl:GD
instance:CoeFun Tb fun _=>TypeId->Option Ty:=⟨Tb.ty⟩
def K.agg:K->Bool|.struct _|.array _ _=>true|_=>false
def kOf:TypeDesc->K|.bool=>.bool|.int k=>.int k|.string=>.str|.pointer e=>.ptr e|.slice e=>.slice e|.array n e=>.array n e|.struct fs=>.struct (fs.toList.map fun f=>(f.type,f.offset,f.name !="_"))|.map k e=>.map k e|.func _ _ _=>.func|_=>.other
def xK(k:K):Value->Option (List Value)|.agg cs=>if k.agg then some cs.toList else none|x=>if k.agg then none else some [x]
def ZG(P:Program)(t:TypeId):Option Ty:=match P.info? t,P.underlying t with|some i,some d=>(match i.zero.bind (xK (kOf d))with|some z=>some ⟨kOf d,i.size,i.bytes,z,!P.eqGuardType P.depth t&&!P.stoodInHeld t⟩|none=>none)|_,_=>none
inductive EH where
 |shut|pass|norm|trim
structure MFn where
 nt:Nat
 res:List ResultVar
 body:M
 mode:EH
inductive Tr(α:Type) where
 |nil
 |node (x:Option α) (l r:Tr α)
abbrev Env:=List (Nat×A)
def cA:Env->Nat->Option A|[],_=>none|(s,x)::l,t=>bif Nat.beq s t then some x else cA l t
def dL(e:Env):List Nat->Env|[]=>[]|s::l=>match cA e s with|some x=>(s,x)::dL e l|none=>dL e l
def put(e:Env)(d:Option Nat)(x:A):Env:=match d with|some d=>(d,x)::e|none=>e
def ofV:Value->A|.agg xs=>.agg (xs.toList.map .v)|x=>.v x
def opnd(e:Env):Operand->Option A|.tmp t=>cA e t|.const x=>some (ofV x)|.func f=>some (.v (.func (.func f) #[] #[]))|.global g=>some (.v (.pointer (some ⟨g,0,none⟩)))
def opnds(e:Env):List Operand->Option (List A)|[]=>some []|x::l=>match opnd e x,opnds e l with|some a,some as=>some (a::as)|_,_=>none
def fX:A->List A|.agg cs=>cs|.v (.agg xs)=>xs.toList.map .v|x=>[x]
def one:A->Bool|.v (.agg _)|.v (.tuple _)|.agg _|.tup _=>false|_=>true
def cG:List A->Bool|[]=>true|x::l=>one x&&cG l
def yY(op:BinOp):Value->Value->Option Value|.int k a,.int k' b=>(match op with|.shl=>if b<0 then none else some (.int k (k.wrap (a*2^(min b.toNat k.bits))))|.shr=>if b<0 then none else some (.int k (a.fdiv (2^(min b.toNat k.bits))))|_=>if k=k' then match op with|.add=>some (.int k (k.wrap (a+b)))|.sub=>some (.int k (k.wrap (a-b)))|.mul=>some (.int k (k.wrap (a*b)))|.quo=>if b=0 then none else some (.int k (k.wrap (a.tdiv b)))|.rem=>if b=0 then none else some (.int k (a.tmod b))|.and=>some (.int k (k.wrap (BitVec.ofInt k.bits a&&&BitVec.ofInt k.bits b).toNat))|.or=>some (.int k (k.wrap (BitVec.ofInt k.bits a|||BitVec.ofInt k.bits b).toNat))|.xor=>some (.int k (k.wrap (BitVec.ofInt k.bits a^^^BitVec.ofInt k.bits b).toNat))|.andNot=>some (.int k (k.wrap (BitVec.ofInt k.bits a&&&~~~BitVec.ofInt k.bits b).toNat))|.eql=>some (.bool (a==b))|.neq=>some (.bool (a !=b))|.lss=>some (.bool (a<b))|.leq=>some (.bool (a<=b))|.gtr=>some (.bool (a>b))|.geq=>some (.bool (a>=b))|_=>none else none)|.string a,.string b=>(match op with|.add=>if((a.size+b.size:Nat):Int)>IntKind.i64.max then none else some (.string (a++b))|.eql=>some (.bool (a.toList==b.toList))|.neq=>some (.bool !(a.toList==b.toList))|.lss=>some (.bool (Op.bytesLess a.toList b.toList))|.leq=>some (.bool (Op.bytesLess a.toList b.toList||(a.toList==b.toList)))|.gtr=>some (.bool !(Op.bytesLess a.toList b.toList||(a.toList==b.toList)))|.geq=>some (.bool !(Op.bytesLess a.toList b.toList))|_=>none)|_,_=>none
def IF(T:Tb)(eq:TypeId->List A->List A->Option Bool):List (TypeId×Nat×Bool)->List A->List A->Option Bool|[],_,_=>some true|(t,off,named)::fs,xs,ys=>match T t with|none=>none|some ty=>if named then if off+ty.size<=xs.length/\off+ty.size<=ys.length/\0<ty.size then match eq t ((xs.drop off).take ty.size) ((ys.drop off).take ty.size),IF T eq fs xs ys with|some a,some b=>some (a&&b)|_,_=>none else none else IF T eq fs xs ys
def eqN(eq:TypeId->List A->List A->Option Bool)(e:TypeId)(sz:Nat):Nat->Nat->List A->List A->Option Bool|0,_,_,_=>some true|n+1,i,xs,ys=>if i*sz+sz<=xs.length/\i*sz+sz<=ys.length/\0<sz then match eq e ((xs.drop (i*sz)).take sz) ((ys.drop (i*sz)).take sz),eqN eq e sz n (i+1) xs ys with|some a,some b=>some (a&&b)|_,_=>none else none
def eqT(T:Tb):Nat->TypeId->List A->List A->Option Bool|0,_,_,_=>none|d+1,t,xs,ys=>match T t with|none=>none|some ty=>match ty.k with|.bool=>(match xs,ys with|[.v (.bool a)],[.v (.bool b)]=>some (a==b)|_,_=>none)|.int _=>(match xs,ys with|[.v (.int k a)],[.v (.int k' b)]=>if k=k' then some (a==b)else none|_,_=>none)|.str=>(match xs,ys with|[.v (.string a)],[.v (.string b)]=>some (a==b)|_,_=>none)|.struct fs=>if ty.plain then IF T (eqT T d) fs xs ys else none|.array n e=>(match T e with|some te=>eqN (eqT T d) e te.size n 0 xs ys|none=>none)|_=>none
def vC:K->A->A->Option Bool|.slice _,a,b=>(match a,b with|.ref _ _ _ _,.v (.slice none _ _)=>some false|.v (.slice none _ _),.ref _ _ _ _=>some false|.sl (_+1) _,.v (.slice none _ _)=>some false|.v (.slice none _ _),.sl (_+1) _=>some false|.v (.slice none _ _),.v (.slice none _ _)=>some true|.v (.slice (some _) _ _),.v (.slice none _ _)=>some false|_,_=>none)|.ptr _,a,b=>(match a,b with|.ptr _ _,.v (.pointer none)=>some false|.v (.pointer none),.ptr _ _=>some false|.fp _,.v (.pointer none)=>some false|.v (.pointer none),.fp _=>some false|.v (.pointer none),.v (.pointer none)=>some true|_,_=>none)|.func,a,b=>(match a,b with|.clo _ _ _,.v .nilFunc=>some false|.v .nilFunc,.clo _ _ _=>some false|.v (.func _ _ _),.v .nilFunc=>some false|.v .nilFunc,.v (.func _ _ _)=>some false|.v .nilFunc,.v .nilFunc=>some true|_,_=>none)|_,_,_=>none
def yJ(T:Tb)(t:TypeId)(ty:Ty)(a b:A):Option Bool:=match vC ty.k a b with|some r=>some r|none=>match a,b with|.agg xs,.agg ys=>if ty.k.agg&&ty.plain then eqT T 20 t xs ys else none|.v (.bool x),.v (.bool y)=>(match ty.k with|.bool=>some (x==y)|_=>none)|_,_=>none
def UV(T:Tb)(op:BinOp)(t:TypeId)(a b:A):Option A:=match T t with|none=>none|some ty=>match op,yJ T t ty a b with|.eql,some r=>some (.v (.bool r))|.neq,some r=>some (.v (.bool !r))|_,_=>none
def sN(ty:Ty)(cs:List A)(off:Nat):Option A:=if off+ty.size<=cs.length then if ty.k.agg then some (.agg ((cs.drop off).take ty.size))else if ty.size=1 then cs[off]? else none else none
def bP(f:A->Option A):List A->Option (List A)|[]=>some []|c::cs=>match f c,bP f cs with|some x,some xs=>some (x::xs)|_,_=>none
def freeze(H:aF):Nat->A->Option A|0,_=>none|n+1,a=>match a with|.v x=>some (.v x)|.agg cs=>(bP (freeze H n) cs).map .agg|.tup cs=>(bP (freeze H n) cs).map .tup|.clo f fs caps=>(match bP (freeze H n) fs,bP (freeze H n) caps with|some xs,some ys=>some (.clo f xs ys)|_,_=>none)|.yl _=>none|.lrec _ _ _ _ _=>none|.it _=>none|.its _ _=>none|.sl len cs=>some (.sl len cs)|.fp cs=>some (.fp cs)|.mf cs=>some (.mf cs)|.mp b=>(match H[b]? with|some (some k)=>(bP (freeze H n) k.cs).map .mf|_=>none)|.ptr b off=>(match H[b]? with|some (some k)=>(bP (freeze H n) (k.cs.drop off)).map .fp|_=>none)|.ref b off len sz=>match H[b]? with|some (some k)=>if off+len*sz<=k.cs.length then(bP (freeze H n) ((k.cs.drop off).take (len*sz))).map (.sl len)else none|_=>none
mutual
def nrm:A→A
 |.v x=>match x with
  |.slice none 0 0=>.sl 0 []
  |x=>.v x
 |.agg l=>.agg (iV l)
 |.tup l=>.tup (iV l)
 |.sl n l=>.sl n (iV l)
 |.fp l=>.fp (iV l)
 |.mf l=>.mf (iV l)
 |.clo f l r=>.clo f (iV l) (iV r)
 |.yl b=>.yl b
 |.lrec nt ps sl a b=>.lrec nt ps sl a b
 |.it b=>.it b
 |.its s p=>.its s p
 |.ptr b o=>.ptr b o
 |.ref b o n z=>.ref b o n z
 |.mp b=>.mp b
def iV:List A→List A
 |[]=>[]
 |x::l=>nrm x::iV l
end
def qL(md:EH)(H:aF)(a:A):Option A:=match md with|.norm=>(freeze H 20 a).map nrm|_=>freeze H 20 a
def shut:A->Bool|.v _|.sl _ _|.fp _|.mf _=>true|.agg cs|.tup cs=>shutL cs|.clo _ fs caps=>shutL fs&&shutL caps|.ptr _ _|.ref _ _ _ _|.mp _|.yl _|.lrec _ _ _ _ _|.it _|.its _ _=>false where shutL:List A->Bool|[]=>true|c::cs=>shut c&&shutL cs
def iI:A->Bool|.v _=>true|.agg cs|.tup cs=>flatL cs|.clo _ fs caps=>flatL fs&&flatL caps|.sl n cs=>Nat.beq n 0&&cs.isEmpty|_=>false where flatL:List A->Bool|[]=>true|c::cs=>iI c&&flatL cs
def dS(H:aF):List A->Option (List A)|[]=>some []|a::l=>match freeze H 20 a,dS H l with|some x,some xs=>some (x::xs)|_,_=>none
def nO(G:Nat->Option (List Value))(H:aF):A->Option (List A)|.v (.pointer (some ⟨g,off,none⟩))=>(match G g with|some xs=>some ((xs.drop off).map .v)|none=>none)|.ptr b off=>(match H[b]? with|some (some k)=>some (k.cs.drop off)|_=>none)|.fp cs=>some cs|_=>none
def nT(place:Nat->Option (Nat×Nat))(cs:List A):List (Nat×A)->Option (List A)|[]=>some cs|(i,x)::rest=>match place i with|none=>none|some (off,size)=>if(fX x).length=size/\off+size<=cs.length then nT place (cs.take off++fX x++cs.drop (off+size)) rest else none
def nK(T:Tb):List (TypeId×Nat×Bool)->Option (List (Nat×Nat))|[]=>some []|(t,off,_)::fs=>match T t,nK T fs with|some ty,some l=>some ((off,ty.size)::l)|_,_=>none
def m7(e:Env):List (Nat×Operand)->Option (List (Nat×A))|[]=>some []|(i,x)::l=>match opnd e x,m7 e l with|some a,some as=>some ((i,a)::as)|_,_=>none
def iK(z:List Value):Nat->List A|0=>[]|n+1=>z.map .v++iK z n
def bnd(len:Nat):Option A->Nat->Option Nat|none,d=>some d|some (.v (.int _ i)),_=>if 0<=i/\i<=len then some i.toNat else none|some _,_=>none
def EP(len:Nat)(lo hi:Option A):Option (Nat×Nat):=match bnd len hi len with|none=>none|some h=>match bnd h lo 0 with|some l=>some (l,h)|none=>none
def mG(e:Env):Option Operand->Option (Option A)|none=>some none|some x=>(opnd e x).map some
abbrev eE:=FuncId->List A->Option A
inductive Tgt where
 |fn (f:FuncId)
 |yl (b:Nat)
abbrev Orc:=Tgt->List A->aF->Option (A×aF)
def callee:A->Option (Tgt×List A×List A)|.v (.func (.func f) fs caps)=>if fs.isEmpty&&caps.isEmpty then some (.fn f,[],[])else none|.clo f fs caps=>some (.fn f,fs,caps)|.yl b=>some (.yl b,[],[])|_=>none
def fK:K->Value->Bool|.bool,.bool _=>true|.int k,.int k' _=>decide (k'=k)|.str,.string _=>true|_,_=>false
def gE:Value->Value->Bool|.bool a,.bool b=>a==b|.int _ a,.int _ b=>a==b|.string a,.string b=>a==b|_,_=>false
def kY(kd:K)(key:Value):List A->Nat->Option (Option (Nat×A))|[],_=>some none|.v x::a::l,i=>if fK kd x then(if gE key x then some (some (i,a))else kY kd key l (i+1))else none|_,_=>none
def dV(H:aF):A->Option (List A)|.mf cs=>some cs|.v (.map none)=>some []|.mp b=>(match H[b]? with|some (some k)=>some k.cs|_=>none)|_=>none
def D3(ty:Ty):Option A:=if ty.k.agg then some (.agg (ty.zero.map .v))else match ty.zero with|[z]=>some (.v z)|_=>none
def oS(k:IntKind):List Value->Bool|[]=>true|.int k' _::l=>decide (k'=k)&&oS k l|_=>false
def lX(T:Tb)(tk:Ty)(x:Value):Bool:=fK tk.k x||match tk.k,x with|.array n el,.agg xs=>(match T el with|some te=>(match te.k with|.int k=>Nat.beq te.size 1&&(Nat.beq xs.size n&&oS k xs.toList)|_=>false)|none=>false)|_,_=>false
def vD:List A->Option (List Value)|[]=>some []|.v x::l=>(vD l).map fun r=>x::r|_=>none
def TO:A->Option Value|.v x=>some x|.agg cs=>(vD cs).map fun r=>.agg r.toArray|_=>none
def vI(T:Tb)(kt:TypeId)(xs:List A):List A->Nat->Option (Option (Nat×A))|[],_=>some none|.v (.agg ys)::a::l,i=>(match eqT T 20 kt xs (ys.toList.map .v)with|some true=>some (some (i,a))|some false=>vI T kt xs l (i+1)|none=>none)|_,_=>none
def JJ(T:Tb)(kt:TypeId)(tk:Ty)(key:Value)(cs:List A):Option (Option (Nat×A)):=bif fK tk.k key then kY tk.k key cs 0 else bif lX T tk key then match key with|.agg xs=>vI T kt (xs.toList.map .v) cs 0|_=>none else none
def bytesOf:List A->Option (List UInt8)|[]=>some []|.v (.int .u8 x)::l=>if 0<=x/\x<256 then(bytesOf l).map fun r=>UInt8.ofNat x.toNat::r else none|_=>none
def KE(T:Tb)(H:aF)(k k':K)(b off len sz:Nat):Option A:=match k,k',H[b]? with|.slice el,.str,some (some blk)=>(match T el,bytesOf ((blk.cs.drop off).take len)with|some te,some l=>(match te.k with|.int .u8=>if sz=1/\l.length=len then some (.v (.string ⟨l.toArray⟩))else none|_=>none)|_,_=>none)|_,_,_=>none
def aK(T:Tb)(e:Env)(H:aF):Op->Option A|.move x|.assign x=>opnd e x|.pick c a b=>(match opnd e c,opnd e a,opnd e b with|some (.v (.bool t)),some x,some y=>some (bif t then x else y)|some (.v (.bool true)),some x,none=>some x|some (.v (.bool false)),none,some y=>some y|_,_,_=>none)|.load t x=>(match(opnd e x).bind (nO T.gl.tab H),T t with|some cs,some ty=>sN ty cs 0|_,_=>none)|.nilCheck x=>(match opnd e x with|some (.ptr b o)=>some (.ptr b o)|some (.fp cs)=>some (.fp cs)|some (.v (.pointer (some a)))=>some (.v (.pointer (some a)))|some (.clo f a b)=>some (.clo f a b)|some (.v (.func (.func f) a b))=>some (.v (.func (.func f) a b))|_=>none)|.binOp op t x y _=>(match opnd e x,opnd e y with|some (.v a),some (.v b)=>(match yY op a b with|some r=>some (.v r)|none=>UV T op t (.v a) (.v b))|some a,some b=>UV T op t a b|_,_=>none)|.unOp op _ x=>(match op,opnd e x with|.neg,some (.v (.int k n))=>some (.v (.int k (k.wrap (0-n))))|.xor,some (.v (.int k n))=>some (.v (.int k (k.wrap (BitVec.ofInt k.bits (if k.signed then-1 else k.max)^^^BitVec.ofInt k.bits n).toNat)))|.not,some (.v (.bool b))=>some (.v (.bool !b))|_,_=>none)|.convert src dst x=>(match T src,T dst,opnd e x with|some _,some ty,some (.v (.int _ n))=>(match ty.k with|.int k=>some (.v (.int k (k.wrap n)))|_=>none)|some _,some ty,some (.v (.string s))=>(match ty.k with|.str=>some (.v (.string s))|_=>none)|some sty,some ty,some (.ref b off len sz)=>bif Nat.beq dst 9 then KE T H sty.k ty.k b off len sz else none|_,_,_=>none)|.build t parts=>(match T t,m7 e parts.toList with|some ty,some ps=>(match ty.k with|.struct fs=>(match nK T fs with|some l=>(nT (fun i=>l[i]?) (ty.zero.map .v) ps).map .agg|none=>none)|.array _ el=>(match T el with|some te=>(nT (fun i=>some (i*te.size,te.size)) (ty.zero.map .v) ps).map .agg|none=>none)|_=>none)|_,_=>none)|.fieldAddr t x f=>(match T t,opnd e x with|some ty,some a=>(match ty.k with|.struct fs=>(match fs[f]? with|some (ft,off,_)=>(match T ft with|some fty=>if 0<fty.size then match a with|.ptr b o=>some (.ptr b (o+off))|.fp cs=>some (.fp (cs.drop off))|_=>none else none|none=>none)|none=>none)|_=>none)|_,_=>none)|.field t x f=>(match T t,opnd e x with|some ty,some (.agg cs)=>(match ty.k with|.struct fs=>(match fs[f]? with|some (ft,off,_)=>(match T ft with|some fty=>sN fty cs off|none=>none)|none=>none)|_=>none)|_,_=>none)|.indexAddr t x i=>(match T t,opnd e x,opnd e i with|some ty,some a,some (.v (.int _ n))=>(match ty.k with|.slice el=>(match T el with|some te=>(match a with|.ref b off len sz=>if 0<=n/\n<len/\sz=te.size then some (.ptr b (off+n.toNat*te.size))else none|.sl len cs=>if 0<=n/\n<len then some (.fp (cs.drop (n.toNat*te.size)))else none|_=>none)|none=>none)|.array len el=>(match T el with|some te=>if 0<=n/\n<len then match a with|.ptr b off=>some (.ptr b (off+n.toNat*te.size))|.v (.pointer (some ⟨g,off,none⟩))=>some (.v (.pointer (some ⟨g,off+n.toNat*te.size,none⟩)))|.fp cs=>some (.fp (cs.drop (n.toNat*te.size)))|_=>none else none|none=>none)|_=>none)|_,_,_=>none)|.index t x i=>(match T t,opnd e x,opnd e i with|some ty,some a,some (.v (.int _ n))=>(match ty.k with|.array len el=>(match T el,a with|some te,.agg cs=>if 0<=n/\n<len then sN te cs (n.toNat*te.size)else none|_,_=>none)|.str=>(match a with|.v (.string s)=>if 0<=n then(s[n.toNat]?).map fun b=>.v (.int .u8 b.toNat)else none|_=>none)|_=>none)|_,_,_=>none)|.slice t x lo hi mx=>(match mx,T t,opnd e x,mG e lo,mG e hi with|none,some ty,some a,some l,some h=>(match ty.k with|.str=>(match a with|.v (.string s)=>(match EP s.size l h with|some (i,j)=>some (.v (.string (s.extract i j)))|none=>none)|_=>none)|.slice el=>(match T el with|some te=>(match a with|.ref b off len sz=>(match EP len l h with|some (i,j)=>if sz=te.size then if i<len then some (.ref b (off+i*sz) (j-i) sz)else some (.sl 0 [])else none|none=>none)|.sl len cs=>(match EP len l h with|some (i,j)=>if cs.length=len*te.size then some (.sl (j-i) ((cs.drop (i*te.size)).take ((j-i)*te.size)))else none|none=>none)|.v (.slice none 0 0)=>(match EP 0 l h with|some _=>some (.v (.slice none 0 0))|none=>none)|_=>none)|none=>none)|.array n el=>(match T el,EP n l h with|some te,some (i,j)=>(match a with|.fp cs=>if n*te.size<=cs.length then some (.sl (j-i) ((cs.drop (i*te.size)).take ((j-i)*te.size)))else none|.ptr b off=>(match H[b]? with|some (some k)=>if k.whole&&Nat.ble (off+n*te.size) k.cs.length&&Nat.ble n maxLen then if i<n then some (.ref b (off+i*te.size) (j-i) te.size)else some (.sl 0 [])else none|_=>none)|_=>none)|_,_=>none)|_=>none)|_,_,_,_,_=>none)|.extract x i=>(match opnd e x with|some (.tup cs)=>cs[i]?|some (.v (.tuple xs))=>(xs[i]?).map ofV|_=>none)|.lookup t m k ok=>(match T t,opnd e m,(opnd e k).bind TO with|some ty,some mv,some key=>(match ty.k with|.map kt et=>(match T kt,T et,dV H mv with|some tk,some te,some es=>(match JJ T kt tk key es with|some (some (_,a))=>some (if ok then .tup [a,.v (.bool true)]else a)|some none=>(match D3 te with|some z=>some (if ok then .tup [z,.v (.bool false)]else z)|none=>none)|none=>none)|_,_,_=>none)|_=>none)|_,_,_=>none)|.makeFunc fn first caps=>(match fn,opnds e first.toList,opnds e caps.toList with|.func f,some xs,some ys=>some (.clo f xs ys)|_,_,_=>none)|.call c=>(match c.callee with|.builtin .len=>(match opnds e c.args.toList,(c.argTypes[0]?).bind T.ty with|some [a],some ty=>(match ty.k with|.str=>(match a with|.v (.string s)=>some (.v (.int .i64 s.size))|_=>none)|.array n _=>some (.v (.int .i64 n))|.slice _=>(match a with|.ref _ _ len _=>some (.v (.int .i64 len))|.sl len _=>some (.v (.int .i64 len))|.v (.slice none n _)=>some (.v (.int .i64 n))|_=>none)|_=>none)|_,_=>none)|.builtin .min=>(match opnds e c.args.toList with|some (x::l)=>minA false x l|_=>none)|.builtin .cap=>(match opnds e c.args.toList,(c.argTypes[0]?).bind T.ty with|some [.v (.slice none _ n)],some ty=>(match ty.k with|.slice _=>some (.v (.int .i64 n))|_=>none)|_,_=>none)|.builtin .unsafeSliceData=>(match opnds e c.args.toList with|some [.v (.slice none _ _)]=>some (.v (.pointer none))|some [.ref b off (_+1) _]=>some (.ptr b off)|_=>none)|.builtin .max=>(match opnds e c.args.toList with|some (x::l)=>minA true x l|_=>none)|_=>none)|_=>none where minA (mx:Bool) (x:A):List A->Option A|[]=>some x|y::l=>match x,y with|.v (.int k a),.v (.int _ b)=>minA mx (.v (.int k (bif mx then(if b>a then b else a)else(if b<a then b else a)))) l|_,_=>none
def calls(e:Env):Op->Option (Tgt×List A)|.call c=>(match c.callee with|.value f=>(match(opnd e f).bind callee,opnds e c.args.toList with|some (g,fs,caps),some as=>some (g,fs++as++caps)|_,_=>none)|_=>none)|_=>none
def jJ(T:Tb)(e:Env)(t:TypeId)(len:Nat)(parts:Array (Nat×Operand)):Option (TypeId×Nat×List A):=match T t with|some ty=>(match ty.k with|.slice el=>(match T el,m7 e parts.toList with|some te,some ps=>if len*te.size<=2^24/\0<te.size/\len<=maxLen/\te.zero.length=te.size then(nT (fun i=>some (i*te.size,te.size)) (iK te.zero len) ps).map fun cs=>(el,te.size,cs)else none|_,_=>none)|_=>none)|none=>none
def iQ(T:Tb)(e:Env)(H:aF)(t:TypeId)(m k v:Operand):Option (A×aF):=match T t,opnd e m,opnd e k,opnd e v with|some ty,some (.mp b),some (.v key),some a=>(match ty.k,H[b]? with|.map kt _,some (some blk)=>(match T kt with|some tk=>if fK tk.k key then match kY tk.k key blk.cs 0 with|some none=>some (.v undef,H.set b (some ⟨blk.e,blk.cs++[.v key,a],blk.whole⟩))|some (some (i,_))=>some (.v undef,H.set b (some ⟨blk.e,blk.cs.set (2*i+1) a,blk.whole⟩))|none=>none else none|none=>none)|_,_=>none)|_,_,_,_=>none
def oF:List Value->List Value->Bool|[],[]=>true|.int k a::l,.int k' b::l'=>decide (k=k')&&(decide (a=b)&&oF l l')|_,_=>false
def sO(key:Value):Option A->Bool|some (.v (.agg ys))=>(match key with|.agg xs=>oF ys.toList xs.toList|_=>false)|_=>false
def lP(T:Tb)(e:Env)(H:aF)(t:TypeId)(m k:Operand):Option (A×aF):=match T t,opnd e m,(opnd e k).bind TO with|some ty,some (.mp b),some key=>(match ty.k,H[b]? with|.map kt et,some (some blk)=>(match T kt,(T et).bind D3 with|some tk,some z=>(match JJ T kt tk key blk.cs with|some none=>some (.tup [z,.v (.int .i64 (blk.cs.length/2:Nat))],H.set b (some ⟨blk.e,blk.cs++[.v key,z],blk.whole⟩))|some (some (i,a))=>bif fK tk.k key||sO key blk.cs[2*i]? then some (.tup [a,.v (.int .i64 i)],H.set b (some blk))else none|none=>none)|_,_=>none)|_,_=>none)|_,_,_=>none
def lH(e:Env)(H:aF)(m s x:Operand):Option (A×aF):=match opnd e m,opnd e s,opnd e x with|some (.mp b),some (.v (.int _ i)),some a=>(match H[b]? with|some (some blk)=>if 0<=i/\2*i.toNat+1<blk.cs.length then some (.v undef,H.set b (some ⟨blk.e,blk.cs.set (2*i.toNat+1) a,blk.whole⟩))else none|_=>none)|_,_,_=>none
def EU(l:List UInt8):List A:=l.map fun b=>.v (.int .u8 b.toNat)
def aC6(T:Tb)(H:aF)(pt:TypeId)(p:A)(n:Int):Option (A×aF):=match p with|.v (.pointer none)=>if n=0 then some (.v (.string .empty),H)else none|.ptr b 0=>(match T pt,H[b]? with|some ty,some (some k)=>(match ty.k with|.ptr el=>(match T el,bytesOf (k.cs.take n.toNat)with|some te,some l=>if te.size=1/\k.e=el/\0<n/\l.length=n.toNat/\l.length<=maxLen then some (.v (.string ⟨l.toArray⟩),H.set b none)else none|_,_=>none)|_=>none)|_,_=>none)|_=>none
def aDr(e:Env)(H:aF)(x:Operand):Option (A×aF):=match opnd e x with|some (.it b)=>(match H[b]? with|some (some k)=>(match k.cs with|[.its s p]=>(match s[p]? with|some u=>bif Nat.blt u.toNat 128 then some (.tup [.v (.bool true),.v (.int .i64 p),.v (.int .i32 u.toNat)],H.set b (some ⟨0,[.its s (p+1)],true⟩))else none|none=>some (.tup [.v (.bool false)],H))|_=>none)|_=>none)|_=>none
def aP(T:Tb)(e:Env)(H:aF):Op→Option (A×aF)
 |.alloc t=>match T t with
  |some ty=>some (.ptr H.length 0,H++[some ⟨t,ty.zero.map .v,true⟩])
  |none=>none
 |.range t x=>match T t,opnd e x with
  |some ty,some (.v (.string s))=>match ty.k with
   |.str=>some (.it H.length,H++[some ⟨0,[.its s 0],true⟩])
   |_=>none
  |_,_=>none
 |.next x str=>bif str then aDr e H x else none
 |.insert t m k v=>iQ T e H t m k v
 |.mapUpdate t m k v=>iQ T e H t m k v
 |.mapEntry t m k=>lP T e H t m k
 |.entryStore _ m s x=>lH e H m s x
 |.makeMap t none=>match T t with
  |some ty=>match ty.k with
   |.map _ _=>some (.mp H.length,H++[some ⟨t,[],true⟩])
   |_=>none
  |none=>none
 |.box t x=>match opnd e x with
  |some a=>if cG (fX a)then some (.ptr H.length 0,H++[some ⟨t,fX a,true⟩])else none
  |none=>none
 |.buildSlice t len parts=>match jJ T e t len parts with
  |some (el,sz,cs)=>if cG cs then some (.ref H.length 0 len sz,H++[some ⟨el,cs,true⟩])else none
  |none=>none
 |.store t p x=>match opnd e p,opnd e x,T t with
  |some (.ptr b off),some a,some ty=>match H[b]? with
   |some (some k) =>
    if(fX a).length=ty.size∧off+ty.size≤k.cs.length∧cG (fX a)then some (.v undef,H.set b (some ⟨k.e,k.cs.take off++fX a++k.cs.drop (off+ty.size),k.whole⟩))else none
   |_=>none
  |_,_,_=>none
 |.makeSlice t l c=>match T t,opnd e l,opnd e c with
  |some ty,some (.v (.int _ n)),some (.v (.int _ m))=>match ty.k with
   |.slice el=>match T el with
    |some te=>if 0≤n∧n≤m∧m*te.bytes≤2 ^ 47∧m≤(maxLen:Int)∧0<te.size∧te.zero.length=te.size then some (.ref H.length 0 n.toNat te.size,H++[some ⟨el,iK te.zero m.toNat,true⟩])else none
    |none=>none
   |_=>none
  |_,_,_=>none
 |.call c=>match c.callee with
  |.builtin .append=>match opnds e c.args.toList,c.argTypes.toList with
   |some [s,x],[t,t']=>match T t with
    |some ty=>match ty.k with
     |.slice el=>match T el with
      |some te=>match srcT H te t t' x with
       |some (m,news)=>if news.length=m*te.size∧te.zero.length=te.size∧cG news then
        match s with
        |.v (.slice none 0 0) =>
         if m=0 then some (s,H)
         else if m≤maxLen∧m*te.bytes≤2 ^ 47 then some (.ref H.length 0 m te.size,H++[some ⟨el,news,false⟩])else none
        |.ref b 0 n sz=>match H[b]? with
         |some (some k) =>
          if sz=te.size∧k.e=el∧n*sz≤k.cs.length∧n+m≤maxLen∧(n+m)*te.bytes≤2 ^ 47 then
           some (.ref H.length 0 (n+m) sz,H.set b none++[some ⟨el,k.cs.take (n*sz)++news,false⟩])
          else none
         |_=>none
        |_=>none
        else none
       |none=>none
      |none=>none
     |_=>none
    |none=>none
   |_,_=>none
  |.builtin .unsafeString=>match opnds e c.args.toList,c.argTypes[0]? with
   |some [p,.v (.int .i64 n)],some pt=>aC6 T H pt p n
   |_,_=>none
  |.builtin .copy=>match opnds e c.args.toList,(c.argTypes[0]?).bind T.ty with
   |some [d,x],some ty=>match ty.k with
    |.slice el=>match T el with
     |some te=>match srcL H te.size x with
      |some (m,news)=>match d with
       |.ref b off n sz=>match H[b]? with
        |some (some k) =>
         let j:=min m n
         let new:=news.take (j*sz)
         if sz=te.size∧news.length=m*te.size∧off+j*sz≤k.cs.length∧cG new then
          some (.v (.int .i64 j),H.set b (some ⟨k.e,k.cs.take off++new++k.cs.drop (off+j*sz),k.whole⟩))
         else none
        |_=>none
       |.v (.slice none 0 0)=>some (.v (.int .i64 0),H)
       |.sl 0 _=>some (.v (.int .i64 0),H)
       |_=>none
      |none=>none
     |none=>none
    |_=>none
   |_,_=>none
  |_=>none
 |_=>none
where
 srcT (H:aF) (te:Ty) (t t':TypeId) (x:A):Option (Nat×List A) :=
  bif Nat.beq t t' then srcL H te.size x
  else match T t' with
   |some ty=>match ty.k,x with
    |.str,.v (.string s)=>bif Nat.beq te.size 1 then some (s.size,EU s.data.toList)else none
    |.int _,.v (.int .i64 l)=>if 0≤l∧l≤maxLen∧0<te.size∧te.zero.length=te.size then some (l.toNat,iK te.zero l.toNat)else none
    |_,_=>none
   |none=>none
 srcL (H:aF) (sz:Nat):A→Option (Nat×List A)
  |.sl n cs=>some (n,cs)
  |.v (.slice none 0 0)=>some (0,[])
  |.v (.slice (some _) 0 _)=>some (0,[])
  |.ref b off n s=>match H[b]? with
   |some (some k)=>if s=sz∧off+n*s≤k.cs.length then some (n,(k.cs.drop off).take (n*s))else none
   |_=>none
  |_=>none
structure St where
 env:Env
 H:aF
def wants(e:Env):Option (Nat×Bool)->Option Bool|none=>some true|some (t,b)=>match cA e t with|some (.v (.bool x))=>some (x==b)|some (.v (.tuple _))=>some false|_=>none
def eI(T:Tb)(q:eE)(st:St)(op:Op):Option A:=match calls st.env op with|some (.fn f,as)=>(match dS st.H as with|some as'=>(match q f as' with|some r=>if(as.all shut)||iI r then some r else none|none=>none)|none=>none)|some (.yl _,_)=>none|none=>match op with|.buildSlice t len parts=>(match jJ T st.env t len parts with|some (_,_,cs)=>if(shut.shutL cs)&&cG cs then some (.sl len cs)else none|none=>none)|_=>aK T st.env st.H op
def fA(T:Tb)(o:Orc)(st:St)(op:Op):Option (A×aF):=match calls st.env op with|some (f,as)=>o f as st.H|none=>match aP T st.env st.H op with|some r=>some r|none=>(aK T st.env st.H op).map fun a=>(a,st.H)
def bC(T:Tb)(q:eE)(o:Orc):Nat->List MOp->St->Option St|_,[],st=>some st|n,m::ms,st=>match wants st.env m.guard with|none=>none|some false=>bC T q o (n-1) ms ⟨put st.env m.dst (.v undef),st.H⟩|some true=>match n with|n+1=>(match eI T q st m.op with|some a=>bC T q o n ms ⟨put st.env m.dst a,st.H⟩|none=>none)|0=>match fA T o st m.op with|some (a,H')=>bC T q o 0 ms ⟨put st.env m.dst a,H'⟩|none=>none
def eqV:Value->Value->Bool|.int k a,.int k' b=>decide (k=k')&&decide (a=b)|.bool a,.bool b=>a==b|.string a,.string b=>a==b|.slice none a b,.slice none c d=>Nat.beq a c&&Nat.beq b d|.slice (some p) a b,.slice (some q) c d=>decide (p=q)&&(Nat.beq a c&&Nat.beq b d)|.pointer none,.pointer none=>true|.pointer (some a),.pointer (some b)=>decide (a=b)|.map none,.map none=>true|.nilFunc,.nilFunc=>true|.nilIface,.nilIface=>true|.func (.func f) a b,.func (.func g) c d=>Nat.beq f g&&(a.isEmpty&&b.isEmpty&&c.isEmpty&&d.isEmpty)|_,_=>false
mutual
def eqA:A→A→Bool
 |.v x,b=>match b with
  |.v y=>eqV x y
  |_=>false
 |.agg l,b=>match b with
  |.agg r=>eqL l r
  |_=>false
 |.tup l,b=>match b with
  |.tup r=>eqL l r
  |_=>false
 |.ptr i o,b=>match b with
  |.ptr j p=>Nat.beq i j&&Nat.beq o p
  |_=>false
 |.ref i o n z,b=>match b with
  |.ref j p m y=>Nat.beq i j&&Nat.beq o p&&Nat.beq n m&&Nat.beq z y
  |_=>false
 |.sl n l,b=>match b with
  |.sl m r=>Nat.beq n m&&eqL l r
  |_=>false
 |.fp l,b=>match b with
  |.fp r=>eqL l r
  |_=>false
 |.mp i,b=>match b with
  |.mp j=>Nat.beq i j
  |_=>false
 |.mf l,b=>match b with
  |.mf r=>eqL l r
  |_=>false
 |.clo f l r,b=>match b with
  |.clo g l' r'=>Nat.beq f g&&eqL l l'&&eqL r r'
  |_=>false
 |.yl _,_=>false
 |.lrec _ _ _ _ _,_=>false
 |.it _,_=>false
 |.its _ _,_=>false
def eqL:List A→List A→Bool
 |[],b=>b.isEmpty
 |x::l,b=>match b with
  |y::r=>eqA x y&&eqL l r
  |[]=>false
end
def n7(T:Tb)(st:St)(m:MOp):Bool:=match wants st.env m.guard with|none=>false|some false=>true|some true=>match calls st.env m.op with|some (.fn _,l)=>l.all shut|some (.yl _,_)=>false|none=>match m.op with|.buildSlice _ _ _=>true|_=>match m.dst with|none=>false|some d=>match aK T st.env st.H m.op,cA st.env d with|some y,some x=>eqA y x|_,_=>false
def againAll(T:Tb)(st:St):List MOp->Bool|[]=>true|m::ms=>n7 T st m&&againAll T st ms
inductive Ex where
 |go
 |out (id:Nat)
 |back
def exOfN:Nat->Ex|0=>.go|1=>.back|n+2=>.out n
def KI:Ex->Nat|.go=>0|.back=>1|.out n=>n+2
structure eK where
 nt:Nat
 ps:List Nat
 sl:List Nat
 a:M
 b:M
 s:Int
 p:Int
 vs:List A
def aV(H:aF)(b:Nat):Option eK:=match H[b]? with|some (some k)=>(match k.cs with|.lrec nt ps sl a bd::.v (.int .i64 s)::.v (.int .i64 p)::vs=>some ⟨nt,ps,sl,a,bd,s,p,vs⟩|_=>none)|_=>none
def eK.blk(r:eK)(s p:Int):Blk:=⟨0,.lrec r.nt r.ps r.sl r.a r.b::.v (.int .i64 s)::.v (.int .i64 p)::r.vs,true⟩
def pending(H:aF)(b:Nat):Option Ex:=match aV H b with|some r=>if r.s=1 then none else if 0<=r.p then some (exOfN r.p.toNat)else none|none=>none
def eQ(nt:Nat)(ps:List Nat)(a b:M)(e:Env):Blk:=⟨0,.lrec nt ps (e.map (·.1)) a b::.v (.int .i64 0)::.v (.int .i64 0)::e.map (·.2),true⟩
def aX(T:Tb)(q:eE)(o:Orc):Nat->M->St->Option (Ex×St)|0,_,_=>none|n+1,m,st=>match m with|.skip=>some (.go,st)|.reg keep ops free=>(match bC T q o free ops ⟨dL st.env keep,st.H⟩with|some st'=>some (.go,st')|none=>none)|.ops ops=>(match bC T q o 0 ops st with|some st'=>some (.go,st')|none=>none)|.again ops=>bif againAll T st ops then some (.go,st)else none|.seq a b=>(match aX T q o n a st with|some (.go,st')=>aX T q o n b st'|r=>r)|.cond c a b=>(match opnd st.env c with|some (.v (.bool t))=>aX T q o n (bif t then a else b) st|_=>none)|.block id a=>(match aX T q o n a st with|some (.out j,st')=>bif Nat.beq j id then some (.go,st')else some (.out j,st')|r=>r)|.loop a=>(match aX T q o n a st with|some (.go,st')=>aX T q o n (.loop a) st'|r=>r)|.rf g nt ps sl a b=>(match(opnd st.env g).bind callee with|some (.fn f,fs,caps)=>(match o (.fn f) (fs++[.yl st.H.length]++caps) (st.H++[some (eQ nt ps a b (dL st.env sl))])with|some (_,H')=>(match pending H' st.H.length with|some ex=>some (ex,⟨st.env,H'.set st.H.length none⟩)|none=>none)|none=>none)|_=>none)|.exit id=>some (.out id,st)|.ret=>some (.back,st)|.bad=>none
def jM:Nat->List A->Env|_,[]=>[]|i,a::l=>(i,a)::jM (i+1) l
def rB(T:Tb)(st:St):ResultVar->Option A|.tmp t=>cA st.env t|.cell p t=>match(cA st.env p).bind (nO T.gl.tab st.H),T t with|some cs,some ty=>sN ty cs 0|_,_=>none
def nB(T:Tb)(st:St):List ResultVar->Option (List A)|[]=>some []|r::rs=>match rB T st r,nB T st rs with|some a,some as=>some (a::as)|_,_=>none
def dB(T:Tb)(st:St)(rs:List ResultVar):Option A:=match nB T st rs with|some [a]=>some a|some as=>some (.tup as)|none=>none
structure Ctx where
 T:Tb
 B:FuncId→Option MFn
 X:FuncId→List A→Option A
 XO:FuncId→Option (List A→aF→Option (A×aF))
def oH(C:Ctx)(f:FuncId):Bool:=match C.B f with|some m=>(match m.mode with|.pass=>true|_=>false)|none=>false
def AK(C:Ctx)(f:FuncId):Bool:=match C.B f with|some m=>(match m.mode with|.trim=>true|_=>false)|none=>false
mutual
def xB(n:Nat):A→Bool
 |.v _|.sl _ _|.fp _|.mf _|.its _ _|.lrec _ _ _ _ _=>true
 |.agg cs|.tup cs=>F8 n cs
 |.clo _ fs caps=>F8 n fs&&F8 n caps
 |.ptr b _|.ref b _ _ _|.mp b|.yl b|.it b=>Nat.blt b n
def F8(n:Nat):List A→Bool
 |[]=>true
 |c::cs=>xB n c&&F8 n cs
end
def UY(n:Nat):Nat->aF->Bool|0,_=>true|_,[]=>true|k+1,o::H=>(match o with|some blk=>F8 n blk.cs|none=>true)&&UY n k H
def IO(n:Nat):Option (A×aF)->Option (A×aF)|some (a,H)=>bif xB n a&&UY n n H then some (a,H.take n)else none|none=>none
def dU(C:Ctx)(q:eE)(o:Orc)(n:Nat)(m:MFn)(as:List A)(H:aF):Option (A×aF):=if as.length<=m.nt then match aX C.T q o n m.body ⟨jM 0 as,H⟩with|some (.go,st)|some (.back,st)=>(match dB C.T st m.res with|some a=>some (a,st.H)|none=>none)|_=>none else none
def dI:List Nat->List A->Env->Env|s::l,x::xs,e=>dI l xs ((s,x)::e)|_,_,e=>e
def jE(T:Tb)(q:eE)(o:Orc)(n:Nat)(b:Nat)(as:List A)(H:aF):Option (A×aF):=match aV H b with|some r=>if r.s=0/\as.length=r.ps.length then match aX T q o n r.a ⟨dI r.ps as (dI r.sl r.vs []),H⟩with|some (.go,s1)=>(match aV s1.H b with|some r1=>if r1.s=0 then match aX T q o n r.b ⟨s1.env,s1.H.set b (some (r1.blk 1 r1.p))⟩with|some (ex,s2)=>(match aV s2.H b with|some r2=>(match ex with|.go=>some (.v (.bool true),s2.H.set b (some (r2.blk 0 0)))|ex=>some (.v (.bool false),s2.H.set b (some (r2.blk 2 (KI ex)))))|none=>none)|none=>none else none|none=>none)|_=>none else none|none=>none
def aS(C:Ctx):Nat->eE|0,_,_=>none|n+1,f,as=>match C.X f as with|some r=>some r|none=>match C.B f with|none=>none|some m=>match dU C (aS C n) (callO n) n m as []with|some (a,H)=>qL m.mode H a|none=>none where callO:Nat->Orc|0,_,_,_=>none|n+1,.fn f,as,H=>(match C.XO f with|some g=>g as H|none=>bif oH C f then match C.B f with|none=>none|some m=>dU C (aS C n) (callO n) n m as H else bif AK C f then match C.B f with|none=>none|some m=>IO H.length (dU C (aS C n) (callO n) n m as H)else match dS H as with|some as'=>(match aS C n f as' with|some r=>if(as.all shut)||iI r then some (r,H)else none|none=>none)|none=>none)|n+1,.yl b,as,H=>jE C.T (aS C n) (callO n) n b as H
variable{P:Program}{T:Tb}
def TOk(P:Program)(T:Tb):Prop:=∀t ty,T t=some ty->ZG P t=some ty
structure iW(P:Program)(t:TypeId)(ty:Ty):Prop where
 info:∃ i z,P.info? t=some i∧i.size=ty.size∧i.bytes=ty.bytes∧i.zero=some z∧xK ty.k z=some ty.zero
 desc:∃ d,P.underlying t=some d∧kOf d=ty.k
 plain:ty.plain=true→P.eqGuardType P.depth t=false∧P.stoodInHeld t=false
theorem aHj{t:TypeId}{ty:Ty}(h:ZG P t=some ty):iW P t ty:=by unfold ZG at h;cases hi:P.info? t with|none=>simp_all|some i=>cases hd:P.underlying t with|none=>simp_all|some d=>simp[hi,hd]at h;cases hz:i.zero with|none=>simp_all|some z=>simp[hz]at h;cases hz':xK (kOf d) z with|none=>simp_all|some zs=>simp[hz']at h;subst h;exact⟨⟨i,z,hi,rfl,rfl,hz,hz'⟩,⟨d,hd,rfl⟩,fun hp=>by simp_all⟩
theorem TOk.facts(hT:TOk P T){t:TypeId}{ty:Ty}(h:T t=some ty):iW P t ty:=aHj (hT t ty h)
section
variable{t:TypeId}{ty:Ty}(F:iW P t ty)(w:World)
include F
theorem iW.run_sizeOf:(sizeOf t).run P w=.ok ty.size w:=by obtain⟨i,z,h,h1,-⟩:=F.info;simp[sizeOf,typeInfo,h,h1]
theorem iW.run_under:∃d,(underlying t).run P w=.ok d w/\kOf d=ty.k:=by obtain⟨d,h,h1⟩:=F.desc;exact⟨d,run_underlying h w,h1⟩
theorem iW.run_isAgg:(isAgg t).run P w=.ok ty.k.agg w:=by obtain⟨d,h,h1⟩:=F.run_under w;simp[isAgg,h];rw[<-h1];cases d<;>rfl
theorem iW.zero:∃z,(zeroValue t).run P w=.ok z w/\z.cells.toList=ty.zero/\(ty.k.agg=true->z=.agg ty.zero.toArray):=by obtain⟨i,z,h,-,-,h3,h4⟩:=F.info;refine⟨z,by simp[zeroValue,typeInfo,h,h3],?_,?_⟩;{unfold xK at h4;split at h4;{split at h4;{simpa[Value.cells]using h4};simp_all};{split at h4;{cases h4};{cases z<;>simp_all [Value.cells]}}};{intro ha;unfold xK at h4;split at h4;{simp[ha,eg]at h4;rw[<-h4]};simp_all}
end
def bW(c:Cfg)(e:Env)(a:Act):Prop:=∀t x,cA e t=some x->R c.ρ c.own c.w x (a.tmps.getD t undef)
section
variable{c:Cfg}{e:Env}{a:Act}
theorem aAm{ρ:List Nat}{own:Nat->Prop}{w:World}(x:Value):R ρ own w (ofV x) x:=by unfold ofV;split;{rename_i xs;exact⟨xs.toList,by simp,RL.exact _⟩};{rw[R]}
theorem bW.opnd(he:bW c e a){x:Operand}{z:A}(h:opnd e x=some z):R c.ρ c.own c.w z (a.eval x):=by cases x with|tmp t=>exact he t z h|const v=>obtain rfl:=ae h;exact aAm v|func f=>obtain rfl:=ae h;rfl|global g=>obtain rfl:=ae h;rfl
theorem bW.opnds(he:bW c e a):∀{l:List Operand}{zs:List A},opnds e l=some zs->RL c.ρ c.own c.w zs (l.map a.eval)|[],zs,h=>by obtain rfl:=ae h;exact RL.nil|x::l,zs,h=>by unfold Ev.opnds at h;cases h1:Ev.opnd e x with|none=>simp_all|some z=>cases h2:Ev.opnds e l with|none=>simp_all|some zs'=>simp[h1,h2]at h;subst h;exact RL.cons (he.opnd h1) (he.opnds h2)
theorem R.open_{own:Nat->Prop}{w:World}{ρ:List Nat}{z:A}{y:Value}(h:R [] own w z y):R ρ own w z y:=R.keep ⟨List.nil_prefix,ar _,fun _ _ h=>⟨h,rfl⟩,fun _ cur _ fz h=>⟨cur,fz,h,rfl⟩,fun _ es n h=>⟨es,n,h⟩,fun _ o h _=>⟨o,h,rfl⟩⟩ z y h
theorem RL.open_{own:Nat->Prop}{w:World}{ρ:List Nat}{z:List A}{y:List Value}(h:RL [] own w z y):RL ρ own w z y:=RL.keep ⟨List.nil_prefix,ar _,fun _ _ h=>⟨h,rfl⟩,fun _ cur _ fz h=>⟨cur,fz,h,rfl⟩,fun _ es n h=>⟨es,n,h⟩,fun _ o h _=>⟨o,h,rfl⟩⟩ z y h
theorem Ok.lies(ok:Ok T.gl c){b g:Nat}{k:Blk}(hb:c.H[b]?=some (some k))(hg:c.ρ[b]?=some g)(hc0:∃cur e fz,c.w.heap[g]?=some (.cells cur e fz)):∃cur xs,c.w.heap[g]?=some (.cells cur k.e (0,0))/\RL c.ρ c.own c.w k.cs xs/\qR c.w g 0 xs/\xs<+:cur.toList/\(k.whole=true->cur.size=k.cs.length):=by obtain⟨cur0,e0,fz0,hc0⟩:=hc0;obtain⟨cur,xs,h1,h2,h3,h4⟩:=ok.cells hb hg hc0;refine⟨cur,xs,h1,h2,fun i x hx=>?_,h3,h4⟩;(have hc:cur[i]?=some x:=by have hlt:=(ac.1 hx).1;have:=h3.getElem hlt;grind);simp[World.cell?,h1,hc]
theorem IG(ok:Ok T.gl c){p:A}{y:Value}{cs:List A}(h:nO T.gl.tab c.H p=some cs)(hr:R c.ρ c.own c.w p y):∃g off xs,y=.pointer (some ⟨g,off,none⟩)/\RL c.ρ c.own c.w cs xs/\qR c.w g off xs:=by cases p with|ptr b off=>(unfold nO at h;obtain⟨g,hg,rfl,hsh⟩:=hr;cases hb:c.H[b]? with|none=>simp_all|some k=>cases k with|none=>simp_all|some k=>simp[hb]at h;subst h;obtain⟨cur,xs,-,h2,h3,-⟩:=ok.lies hb hg hsh;refine⟨g,off,xs.drop off,rfl,h2.drop off,?_⟩;simpa using h3.drop off)|fp cs'=>obtain rfl:=ae h;obtain⟨g,off,xs,h1,-,-,h4,h5⟩:=hr;exact⟨g,off,xs,h1,h4.open_,h5⟩|v x=>subst hr;unfold nO at h;split at h;{rename_i g off heq;cases heq;split at h;{rename_i vs hg;obtain rfl:=ae h;obtain⟨-,-,h3,-⟩:=ok.glob.1 _ _ hg;exact⟨_,_,vs.drop off,rfl,RL.exact _,by simpa using h3.drop off⟩};simp_all};{simp_all};{simp_all};simp_all|_=>simp[nO]at h
theorem yU{t:TypeId}{ty:Ty}(F:iW P t ty){w:World}{ρ:List Nat}{own:Nat->Prop}{g off:Nat}{cs:List A}{xs:List Value}{x:A}(h:sN ty cs 0=some x) (hr:RL ρ own w cs xs) (hl:qR w g off xs):∃y,(loadVar t ⟨g,off,none⟩).run P w=.ok y w/\R ρ own w x y:=by unfold sN at h;split at h;{simp[loadVar,F.run_isAgg w];by_cases ha:ty.k.agg=true;{simp[ha,eg]at h⊢;subst h;(have hlen:(xs.take ty.size).length=ty.size:=by rw[fx,hr.length];omega);(have hrun:=run_loadCells_list (P:=P) w ⟨g,off,none⟩ (xs.take ty.size) fun j v hv=>by rw[Addr.add_lit];exact hl.take ty.size j v hv);rw[hlen]at hrun;refine⟨.agg (xs.take ty.size).toArray,by simp[F.run_sizeOf w,hrun],?_⟩;exact⟨_,rfl,hr.take _⟩};{simp only[ha,cr,ig]at h⊢;split at h;{obtain⟨y,hy,hry⟩:=hr.get 0 x h;have:=hl 0 y hy;simp_all};simp_all}};simp_all
theorem zX{t:TypeId}{ty:Ty}(F:iW P t ty){w:World}{ρ:List Nat}{own:Nat->Prop}{off:Nat}{cs:List A}{xs:List Value}{x:A}(h:sN ty cs off=some x) (hr:RL ρ own w cs xs):∃y,(part t xs.toArray off).run P w=.ok y w/\R ρ own w x y:=by unfold sN at h;split at h;{simp[part,F.run_isAgg w];by_cases ha:ty.k.agg=true;{simp[ha,eg]at h⊢;subst h;refine⟨.agg ((xs.drop off).take ty.size).toArray,by simp[F.run_sizeOf w],?_⟩;exact⟨_,rfl,(hr.drop _).take _⟩};{simp only[ha,cr,ig]at h⊢;split at h;{obtain⟨y,hy,hry⟩:=hr.get off x h;simp_all};simp_all}};simp_all
end
variable{P:Program}{T:Tb}
def aRX(k:K)(xs:List Value)(x:Value):Prop:=(k.agg=true->x=.agg xs.toArray)/\(k.agg=false->xs=[x])
theorem mN{t:TypeId}{ty:Ty}(F:iW P t ty)(w:World)(xs:List Value)(off:Nat)(h:off+ty.size<=xs.length)(h0:0<ty.size) (h1:ty.k.agg=false->ty.size=1):∃y,(part t xs.toArray off).run P w=.ok y w/\aRX ty.k ((xs.drop off).take ty.size) y:=by simp[part,F.run_isAgg w];by_cases ha:ty.k.agg=true;{simp[ha];exact⟨.agg ((xs.drop off).take ty.size).toArray,by simp[F.run_sizeOf w],(fun _=>rfl),(fun h=>by simp_all)⟩};{simp at ha;have h2:=h1 ha;(have hlt:off<xs.length:=by omega);refine⟨xs[off],by simp_all,(fun h=>by simp_all),(fun _=>?_)⟩;rw[h2,gq hlt,lj,ke]}
theorem yE{α β:Type}(x:α)(l:List α)(b:β)(f:α->β->Sem (ForInStep β)):forIn (x::l) b f=f x b>>=fun r=>match r with|.done b=>pure b|.yield b=>forIn l b f:=by rw[List.forIn_cons];rfl
theorem RL.single{ρ:List Nat}{own:Nat->Prop}{w:World}{a:A}{ys:List Value}(h:RL ρ own w [a] ys):∃y,ys=[y]/\R ρ own w a y:=by obtain⟨x,xs,rfl,h1,h2⟩:=h;rw[RL]at h2;simp_all
theorem RL.exact_of{ρ:List Nat}{own:Nat->Prop}{w:World}{x:Value}{ys:List Value}(h:RL ρ own w [.v x] ys):ys=[x]:=by obtain⟨y,rfl,h1⟩:=h.single;rw[h1]
theorem LM(hT:TOk P T):∀(d:Nat) (t:TypeId) (ty:Ty) (xs ys:List A) (b:Bool),T t=some ty->eqT T d t xs ys=some b->ty.k.agg=false->xs.length=1:=by intro d t ty xs ys b hty h ha;cases d with|zero=>simp[eqT]at h|succ d=>unfold eqT at h;cases hk:ty.k with|struct fs=>simp[hk,K.agg]at ha|array n e=>simp[hk,K.agg]at ha|bool=>grind|int k=>grind|str=>grind|_=>simp_all
theorem WS(hT:TOk P T){ρ:List Nat}{own:Nat→Prop}{w:World}:∀(d D:Nat) (t:TypeId) (ty:Ty) (xs ys:List A) (us vs:List Value) (u v:Value) (b:Bool),d≤D→T t=some ty→eqT T d t xs ys=some b →
  RL ρ own w xs us→RL ρ own w ys vs→aRX ty.k us u→aRX ty.k vs v→(Op.equalIn D t u v).run P w=.ok b w:=by
 intro d
 induction d with
 |zero=>intro D t ty xs ys us vs u v b _ _ h;simp[eqT]at h
 |succ d ih =>
  intro D t ty xs ys us vs u v b hD hty h hx hy hu hv
  obtain⟨D,rfl⟩:∃ D',D=D'+1:=⟨D-1,by omega⟩
  have hD':d≤D:=by omega
  have F:=hT.facts hty
  obtain⟨tyd,hd,hkd⟩:=F.desc
  unfold eqT at h
  simp only[hty]at h
  cases hk:ty.k with
  |bool =>
   simp only[hk]at h
   split at h
   ·rename_i p q
    obtain rfl:=ae h
    obtain rfl:=hx.exact_of
    obtain rfl:=hy.exact_of
    obtain rfl:u=.bool p:=by have:=hu.2 (by simp[hk,K.agg]);simpa using this.symm
    obtain rfl:v=.bool q:=by have:=hv.2 (by simp[hk,K.agg]);simpa using this.symm
    rw[hk]at hkd
    cases tyd<;>simp[kOf]at hkd
    unfold Op.equalIn
    simp[run_underlying hd]
   ·cases h
  |int k =>
   simp only[hk]at h
   split at h
   ·rename_i k1 p k2 q
    split at h
    ·obtain rfl:=ae h
     obtain rfl:=hx.exact_of
     obtain rfl:=hy.exact_of
     obtain rfl:u=.int k1 p:=by have:=hu.2 (by simp[hk,K.agg]);simpa using this.symm
     obtain rfl:v=.int k2 q:=by have:=hv.2 (by simp[hk,K.agg]);simpa using this.symm
     rw[hk]at hkd
     cases tyd<;>simp[kOf]at hkd
     unfold Op.equalIn
     simp[run_underlying hd, *]
    ·cases h
   ·cases h
  |str =>
   simp only[hk]at h
   split at h
   ·rename_i p q
    obtain rfl:=ae h
    obtain rfl:=hx.exact_of
    obtain rfl:=hy.exact_of
    obtain rfl:u=.string p:=by have:=hu.2 (by simp[hk,K.agg]);simpa using this.symm
    obtain rfl:v=.string q:=by have:=hv.2 (by simp[hk,K.agg]);simpa using this.symm
    rw[hk]at hkd
    cases tyd<;>simp[kOf]at hkd
    unfold Op.equalIn
    simp[run_underlying hd]
   ·cases h
  |struct fs =>
   simp only[hk]at h
   split at h
   ·rename_i hpl
    obtain⟨-,hst⟩:=F.plain hpl
    rw[hk]at hkd
    cases tyd with
    |struct fds =>
     simp only[kOf,K.struct.injEq]at hkd
     obtain rfl:=hu.1 (by simp[hk,K.agg])
     obtain rfl:=hv.1 (by simp[hk,K.agg])
     have key:∀(fl:List Field) (b:Bool),IF T (eqT T d) (fl.map fun f=>(f.type,f.offset,f.name != "_")) xs ys=some b →
       (forIn (m:=Sem) fl ((none,()):Option Bool×Unit) fun(f:Field) _ =>
        if f.name≠ "_" then do
         let x ← part f.type us.toArray f.offset
         let y ← part f.type vs.toArray f.offset
         let r ← Op.equalIn D f.type x y
         if(!r)=true then pure (ForInStep.done (some false,()))else pure (ForInStep.yield (none,()))
        else pure (ForInStep.yield (none,()))).run P w=.ok (if b then(none,())else(some false,())) w:=by
      intro fl
      induction fl with
      |nil=>intro b hb;simp[IF]at hb;subst hb;simp
      |cons f fl ihf =>
       intro b hb
       rw[yE,Sem.run_bind]
       simp only[gi]at hb
       unfold IF at hb
       cases hft:T f.type with
       |none=>simp[hft]at hb
       |some fty =>
        simp only[hft]at hb
        by_cases hn:f.name= "_"
        ·simp only[hn,mt,cr,ig]at hb
         rw[if_neg (by simp[hn])]
         simp only[Sem.run_pure,Result.andThen_ok]
         exact ihf b hb
        ·have hn':(f.name != "_")=true:=by simpa using hn
         simp only[hn',eg]at hb
         split at hb
         ·rename_i hsz
          cases h1:eqT T d f.type ((xs.drop f.offset).take fty.size) ((ys.drop f.offset).take fty.size)with
          |none=>simp[h1]at hb
          |some b1 =>
           cases h2:IF T (eqT T d) (fl.map fun f=>(f.type,f.offset,f.name != "_")) xs ys with
           |none=>simp[h1,h2]at hb
           |some b2 =>
            simp only[h1,h2,ab]at hb
            subst hb
            have F1:=hT.facts hft
            have hs1:fty.k.agg=false→fty.size=1:=fun ha=>by
             have:=LM hT d f.type fty _ _ b1 hft h1 ha
             simp at this
             omega
            obtain⟨p,hp,hpm⟩:=mN F1 w us f.offset (by rw[hx.length];omega) hsz.2.2 hs1
            obtain⟨q,hq,hqm⟩:=mN F1 w vs f.offset (by rw[hy.length];omega) hsz.2.2 hs1
            have h3:=ih D f.type fty _ _ _ _ p q b1 hD' hft h1 ((hx.drop _).take _) ((hy.drop _).take _) hpm hqm
            rw[if_pos hn]
            simp only[Sem.run_bind,hp,hq,h3,Result.andThen_ok]
            cases b1
            ·simp
            ·simp only[fu,cr,ig,Sem.run_pure,Result.andThen_ok,jl]
             exact ihf b2 h2
         ·cases hb
     have:=key fds.toList b (by rw[hkd];omega)
     unfold Op.equalIn
     simp only[Sem.run_bind,run_underlying hd,Result.andThen_ok,run_program,hst,cr,ig]
     rw[← Array.forIn_toList]
     rw[this]
     cases b<;>simp
    |_=>simp[kOf]at hkd
   ·cases h
  |array n e =>
   simp only[hk]at h
   cases hte:T e with
   |none=>simp[hte]at h
   |some te =>
    simp only[hte]at h
    rw[hk]at hkd
    cases tyd with
    |array n' e' =>
     simp only[kOf,K.array.injEq]at hkd
     obtain⟨rfl,rfl⟩:=hkd
     obtain rfl:=hu.1 (by simp[hk,K.agg])
     obtain rfl:=hv.1 (by simp[hk,K.agg])
     have Fe:=hT.facts hte
     have key:∀(m i:Nat) (b:Bool),eqN (eqT T d) e' te.size m i xs ys=some b →
       (forIn (m:=Sem) (List.range' i m) ((none,()):Option Bool×Unit) fun(i:Nat) _=>do
         let x ← part e' us.toArray (i*te.size)
         let y ← part e' vs.toArray (i*te.size)
         let r ← Op.equalIn D e' x y
         if(!r)=true then pure (ForInStep.done (some false,()))else pure (ForInStep.yield (none,()))).run P w=.ok (if b then(none,())else(some false,())) w:=by
      intro m
      induction m with
      |zero=>intro i b hb;simp[eqN]at hb;subst hb;simp
      |succ m ihm =>
       intro i b hb
       rw[List.range'_succ,yE,Sem.run_bind]
       unfold eqN at hb
       split at hb
       ·rename_i hsz
        cases h1:eqT T d e' ((xs.drop (i*te.size)).take te.size) ((ys.drop (i*te.size)).take te.size)with
        |none=>simp[h1]at hb
        |some b1 =>
         cases h2:eqN (eqT T d) e' te.size m (i+1) xs ys with
         |none=>simp[h1,h2]at hb
         |some b2 =>
          simp only[h1,h2,ab]at hb
          subst hb
          have hs1:te.k.agg=false→te.size=1:=fun ha=>by
           have:=LM hT d e' te _ _ b1 hte h1 ha
           simp at this
           omega
          obtain⟨p,hp,hpm⟩:=mN Fe w us (i*te.size) (by rw[hx.length];omega) hsz.2.2 hs1
          obtain⟨q,hq,hqm⟩:=mN Fe w vs (i*te.size) (by rw[hy.length];omega) hsz.2.2 hs1
          have h3:=ih D e' te _ _ _ _ p q b1 hD' hte h1 ((hx.drop _).take _) ((hy.drop _).take _) hpm hqm
          simp only[Sem.run_bind,hp,hq,h3,Result.andThen_ok]
          cases b1
          ·simp
          ·simp only[fu,cr,ig,Sem.run_pure,Result.andThen_ok,jl]
           exact ihm (i+1) b2 h2
       ·cases hb
     have:=key n' 0 b h
     unfold Op.equalIn
     simp only[Sem.run_bind,run_underlying hd,Result.andThen_ok,Fe.run_sizeOf w]
     rw[Std.Legacy.Range.forIn_eq_forIn_range']
     simp only[Std.Legacy.Range.size,kg,Nat.add_sub_cancel,Nat.div_one]
     rw[this]
     cases b<;>simp
    |_=>simp[kOf]at hkd
  |_=>simp[hk]at h
variable{P:Program}{T:Tb}
theorem mY(op:BinOp)(t:TypeId)(x y:Operand)(a b:Value)(w:World)(h1:∀p q,a=.agg p->b=.agg q->P.eqGuardType P.depth t=false)(h2:a=.nilIface->b=.nilIface->False):(eqGuard op t x y a b).run P w=.ok () w:=by unfold eqGuard;cases op<;>first|omega|(cases a<;>first|(simp;done)|(cases b<;>first|simp_all|omega|simp_all))
theorem aE9{op:BinOp}{x y r:Value}(t:TypeId)(w:World)(h:yY op x y=some r):(binOp op t x y).run P w=.ok r w:=by unfold yY at h;split at h;{rename_i k a k' b;cases op with|shl=>simp only at h;split at h;{cases h};{rename_i hb;obtain rfl:=ae h;simp[binOp,Op.shift,hb]}|shr=>simp only at h;split at h;{cases h};{rename_i hb;obtain rfl:=ae h;simp[binOp,Op.shift,hb]}|quo=>simp only at h;split at h;{rename_i hk;split at h;{cases h};{rename_i hb;obtain rfl:=ae h;simp[binOp,hk,Op.intDiv,hb]}};simp_all|rem=>simp only at h;split at h;{rename_i hk;split at h;{cases h};{rename_i hb;obtain rfl:=ae h;simp[binOp,hk,Op.intDiv,hb]}};simp_all|_=>simp only at h;split at h;{rename_i hk;subst hk;obtain rfl:=ae h;simp[binOp,Op.intArith,Op.intBits,Op.intCmp]};simp_all};{rename_i a b;cases op with|add=>simp only at h;split at h;{cases h};{rename_i hb;obtain rfl:=ae h;simp only[binOp,Op.stringOp,if_neg hb,Sem.run_pure]}|_=>simp only at h;first|(obtain rfl:=ae h;simp[binOp,Op.stringOp])|cases h};simp_all
theorem XR{op:BinOp}{x y r:Value}(h:yY op x y=some r):(∀p q,x=.agg p->y=.agg q->False)/\(x=.nilIface->y=.nilIface->False):=by unfold yY at h;grind
theorem RN(t:TypeId){x y:Value}{b:Bool}{w:World}(h:(Op.equal t x y).run P w=.ok b w) (h1:∀k a k' b,x=.int k a->y=.int k' b->False) (h2:∀k a k' b,x=.float k a->y=.float k' b->False) (h3:∀k a a' k' b b',x=.complex k a a'->y=.complex k' b b'->False) (h4:∀a b,x=.string a->y=.string b->False):(binOp .eql t x y).run P w=.ok (.bool b) w/\(binOp .neq t x y).run P w=.ok (.bool !b) w:=by constructor<;>·unfold binOp;simp_all
variable{P:Program}{T:Tb}
theorem kM{t:TypeId}{x y:Value}{r:Bool}{w:World}(h:∀d,(Op.equalIn (d+1) t x y).run P w=.ok r w):(Op.equal t x y).run P w=.ok r w:=h 9999
set_option maxHeartbeats 400000 in theorem aCF {ρ:List Nat}{own:Nat->Prop}{w:World}{t:TypeId}{d:TypeDesc}(hd:P.underlying t=some d){a b:A}{x y:Value}{r:Bool}(h:vC (kOf d) a b=some r) (ha:R ρ own w a x) (hb:R ρ own w b y):(Op.equal t x y).run P w=.ok r w/\(∀k a k' b,x=.int k a->y=.int k' b->False)/\(∀k a k' b,x=.float k a->y=.float k' b->False)/\(∀k a a' k' b b',x=.complex k a a'->y=.complex k' b b'->False)/\(∀a b,x=.string a->y=.string b->False)/\(∀p q,x=.agg p->y=.agg q->False)/\(x=.nilIface->y=.nilIface->False):=by(cases d<;>simp only[kOf,vC]at h<;>try simp_all);all_goals split at h<;>first|(cases h;done)|(simp only[R]at ha hb;obtain rfl:=ae h;first|(obtain⟨g,cap,cur,e,fz,-,rfl,-⟩:=ha;obtain rfl:=hb;refine⟨kM (fun d=>by unfold Op.equalIn;simp[run_underlying hd]),?_⟩;simp;done)|(obtain⟨g,cap,cur,e,fz,-,rfl,-⟩:=hb;obtain rfl:=ha;refine⟨kM (fun d=>by unfold Op.equalIn;simp[run_underlying hd]),?_⟩;simp;done)|(rcases ha with⟨ha,-⟩|⟨g,off,cap,xs,rfl,-⟩;{omega};{obtain rfl:=hb;refine⟨kM (fun d=>by unfold Op.equalIn;simp[run_underlying hd]),?_⟩;simp})|(rcases hb with⟨hb,-⟩|⟨g,off,cap,xs,rfl,-⟩;{omega};{obtain rfl:=ha;refine⟨kM (fun d=>by unfold Op.equalIn;simp[run_underlying hd]),?_⟩;simp})|omega|omega|(obtain⟨g,off,xs,rfl,-⟩:=ha;obtain rfl:=hb;refine⟨kM (fun d=>by unfold Op.equalIn;simp[run_underlying hd]),?_⟩;simp)|(obtain⟨g,off,xs,rfl,-⟩:=hb;obtain rfl:=ha;refine⟨kM (fun d=>by unfold Op.equalIn;simp[run_underlying hd]),?_⟩;simp)|(obtain⟨xs,ys,rfl,-⟩:=ha;obtain rfl:=hb;refine⟨kM (fun d=>by unfold Op.equalIn;simp[run_underlying hd]),?_⟩;simp)|(obtain⟨xs,ys,rfl,-⟩:=hb;obtain rfl:=ha;refine⟨kM (fun d=>by unfold Op.equalIn;simp[run_underlying hd]),?_⟩;simp)|simp)
