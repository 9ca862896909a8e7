/- A law for a region that draws its order: its first k operations compute, read memory and make new memory: each of them is looked at once, alone, and whatever order is drawn serves; what is behind them stands in one forced order and is walked as it stands. In two forms: plain, and inside a fence. Conditions: a program under 'wide'; among the first k every slot is written once, and what an operation looks at is written by operations that its edges put ahead of it; each later one has all before it among its ancestors. -/
import Derived.WalkKit
import Derived.Orders
import Derived.OrdersIn
import Derived.TacticsIn
import Derived.Below
import Derived.Laws.AppendOwn
import Derived.WalkSpells
import Derived.Lib.UnsafeStr
import Derived.Laws.BytesArg
import Derived.Laws.Tables
import Derived.Laws.Slices
import Derived.MapKept
import Derived.Laws.MakeOwn
import Derived.RangeFuncRecord
set_option linter.all false
namespace Go.Proofs.YthoaemjdfccalaaGreatDoor.Rel
open Go Go.RowKit
variable{P:Program}{ops:List Oper}
abbrev Grow(w w':World):Prop:=Below w.heap.size w w'
theorem Grow.refl(w:World):Grow w w:=Below.refl _ _
theorem Grow.trans{a b c:World}(h:Grow a b)(k:Grow b c):Grow a c:=Below.trans h (Below.mono k h.size)
theorem Grow.drew(w:World):Grow w w.drew:=(Below.refl _ _).drew
theorem Grow.below{w w':World}{B:Nat}(h:Grow w w')(hB:B<=w.heap.size):Below B w w':=Below.mono h hB
theorem Grow.size{w w':World}(h:Grow w w'):w.heap.size<=w'.heap.size:=Below.size h
theorem Grow.cell{w w':World}(h:Grow w w'){b o:Nat}(hb:b<w.heap.size):w'.cell? ⟨b,o,none⟩=w.cell? ⟨b,o,none⟩:=Below.cell h hb
theorem Grow.frozen{w w':World}(h:Grow w w'){b o:Nat}(hb:b<w.heap.size):w'.frozen? ⟨b,o,none⟩=w.frozen? ⟨b,o,none⟩:=Below.frozen h hb
def writer:List Oper->Nat->Tmp->Option Nat|[],_,_=>none|o::l,i,t=>if o.dst=some t then some i else writer l (i+1) t
def preds(o:Oper):List Nat:=(o.after.toList.filter (Region.binds .any)).map (·.on)
def masks:List Oper->List Nat->List Nat|[],acc=>acc|o::l,acc=>masks l (acc++[(preds o).foldl (fun m p=>m|||(1<<<p)|||acc.getD p 0) 0])
def ancOk(ops:List Oper)(M:List Nat):Bool:=(List.range ops.length).all fun i=>match ops[i]? with|none=>false|some o=>decide (M.getD i 0<2^i)&&(preds o).all (fun p=>decide (p<i))&&(List.range i).all fun j=>!(M.getD i 0).testBit j||(preds o).any fun p=>p==j||(M.getD p 0).testBit j
def forced(ops:List Oper)(M:List Nat)(k:Nat):Bool:=(List.range ops.length).all fun i=>decide (i<k)||(List.range i).all fun j=>(M.getD i 0).testBit j
def fine(ops:List Oper)(n:Nat)(k:Nat):Bool:=decide (k<=ops.length)&&ancOk ops (masks ops [])&&forced ops (masks ops []) k&&(List.range k).all fun i=>match ops[i]? with|none=>false|some o=>(o.looksAt ops.toArray).all (fun t=>match writer (ops.take k) 0 t with|none=>true|some j=>(preds o).contains j)&&(match o.dst with|none=>false|some d=>decide (d<n)&&writer (ops.take k) 0 d==some i)
theorem writer_some:∀{l:List Oper}{k i:Nat}{t:Tmp},writer l k t=some i->k<=i/\∃o,l[i-k]?=some o/\o.dst=some t|[],_,_,_,h=>by simp[writer]at h|o::l,k,i,t,h=>by unfold writer at h;split at h;{simp_all};{obtain⟨h1,o',h2,h3⟩:=writer_some h;grind}
theorem writer_none:∀{l:List Oper}{k:Nat}{t:Tmp},writer l k t=none->∀o∈l,o.dst≠some t|[],_,_,_,_,h=>by cases h|o::l,k,t,h,o',ho=>by unfold writer at h;split at h;{cases h};{cases ho with|head=>omega|tail _ hm=>exact writer_none h o' hm}
theorem CH{o:Oper}{p:Nat}:p∈preds o↔∃e∈o.after,Region.binds .any e=true/\e.on=p:=by unfold preds;constructor;{grind};grind
theorem lt_of_get{α:Type}{l:List α}{i:Nat}{o:α}(h:l[i]?=some o):i<l.length:=(List.getElem?_eq_some_iff.1 h).1
theorem ancOk_at{M:List Nat}{i:Nat}{o:Oper}(h:ancOk ops M=true)(ho:ops[i]?=some o):(∀p∈preds o,p<i)/\∀j,(M.getD i 0).testBit j=true->j<i/\∃p∈preds o,p=j\/(M.getD p 0).testBit j=true:=by have h1:=List.all_eq_true.1 h i (List.mem_range.2 (lt_of_get ho));simp[ho,Bool.and_eq_true]at h1;obtain⟨⟨h0,h2⟩,h3⟩:=h1;refine⟨fun p hp=>by simp_all,fun j hb=>?_⟩;(have hj:j<i:=by rcases Nat.lt_or_ge j i with h'|h';{omega};{have:=Nat.testBit_lt_two_pow (Nat.lt_of_lt_of_le h0 (Nat.pow_le_pow_right (by simp) h'));simp_all});grind
def Closed(ops:List Oper)(listed:Array Bool):Prop:=∀i o,ops[i]?=some o->listed.getD i true=true->∀p∈preds o,listed.getD p true=true
theorem anc_listed{M:List Nat}{listed:Array Bool}(h:ancOk ops M=true)(hc:Closed ops listed):∀(i:Nat)(o:Oper),ops[i]?=some o->(∀p∈preds o,listed.getD p true=true)->∀j,(M.getD i 0).testBit j=true->listed.getD j true=true:=by intro i;induction i using Nat.strongRecOn with|ind i ih=>intro o ho hp j hb;obtain⟨h1,h2⟩:=ancOk_at h ho;obtain⟨hj,p,hpm,hpj⟩:=h2 j hb;rcases hpj with rfl|hpj;{simp_all};{have hlt:=h1 p hpm;(have hlen:p<ops.length:=by have:=lt_of_get ho;omega);have hop:=List.getElem?_eq_getElem hlen;exact ih p hlt _ hop (fun q hq=>hc p _ hop (hp p hpm) q hq) j hpj}
theorem fine_at{n k i:Nat}{o:Oper}(h:fine ops n k=true)(ho:ops[i]?=some o)(hi:i<k):(∀t∈o.looksAt ops.toArray,∀j,writer (ops.take k) 0 t=some j->j∈preds o)/\(∃d,o.dst=some d/\d<n/\writer (ops.take k) 0 d=some i):=by unfold fine at h;grind
theorem fine_le{n k:Nat}(h:fine ops n k=true):k<=ops.length:=by unfold fine at h;simp_all
theorem fine_anc{n k:Nat}(h:fine ops n k=true):ancOk ops (masks ops [])=true:=by unfold fine at h;simp_all
theorem IW{n k:Nat}(h:fine ops n k=true){i:Nat}(hi:i<ops.length)(hk:k<=i):∀j,j<i->((masks ops []).getD i 0).testBit j=true:=by unfold fine at h;simp at h;have:=List.all_eq_true.1 h.1.2 i (List.mem_range.2 hi);grind
theorem ready_spec{listed:Array Bool}{i:Nat}:i∈Region.ready .any ops.toArray listed↔listed.getD i true=false/\∃o,ops[i]?=some o/\∀p∈preds o,listed.getD p false=true:=by rw[mem_ready];constructor;{rintro⟨h1,o,h2,h3⟩;refine⟨h1,o,by simp_all,fun p hp=>?_⟩;obtain⟨e,he,hb,rfl⟩:=CH.1 hp;simp_all};{rintro⟨h1,o,h2,h3⟩;exact⟨h1,o,by simp_all,fun e he hb=>h3 _ (CH.2 ⟨e,he,hb,rfl⟩)⟩}
theorem getD_mono{listed:Array Bool}{p:Nat}(h:listed.getD p false=true):listed.getD p true=true:=by grind
theorem mH{n k:Nat}{listed:Array Bool}{i:Nat}(hf:fine ops n k=true)(hc:Closed ops listed)(hi:i∈Region.ready .any ops.toArray listed)(hk:k<=i):∀j,j<i->listed.getD j true=true:=by obtain⟨-,o,ho,hp⟩:=ready_spec.1 hi;intro j hj;exact anc_listed (fine_anc hf) hc i o ho (fun p hpm=>getD_mono (hp p hpm)) j (IW hf (lt_of_get ho) hk j hj)
theorem ready_nil{M:List Nat}{listed:Array Bool}(hsz:listed.size=ops.length)(hf:ancOk ops M=true)(hr:Region.ready .any ops.toArray listed=[]):∀j,listed.getD j true=true:=by intro j;induction j using Nat.strongRecOn with|ind j ih=>rcases Nat.lt_or_ge j ops.length with hj|hj;{cases hl:listed.getD j true with|true=>rfl|false=>have ho:=List.getElem?_eq_getElem hj;have:=ready_spec.2 ⟨hl,ops[j],ho,fun p hp=>by have hlt:=(ancOk_at hf ho).1 p hp;grind⟩;simp_all};simp_all
def aCZ(P:Program)(G:World->World->Prop)(R:Value->World->Prop)(w:World):Result Next->Prop|.ok (.value v) w'=>G w w'/\R v w'|.ok .skip w'=>G w w'/\R undef w'|.ok (.enter f args) w'=>Calls P f args w' fun e w''=>∃v,e=.returned v/\G w w''/\R v w''|_=>False
def slotFact(pre:List Oper)(F:List (Value->World->Prop))(a a':Act)(w':World)(t:Tmp):Prop:=match writer pre 0 t with|some j=>(F.getD j fun _ _=>True) (a'.tmps.getD t undef) w'|none=>a'.tmps.getD t undef=a.tmps.getD t undef
def aKV(P:Program)(G:World->World->Prop)(ops:List Oper)(k:Nat)(F:List (Value->World->Prop))(a:Act)(w:World)(i:Nat)(o:Oper):Prop:=∀(a':Act) (w':World),G w w'->a'.tmps.size=a.tmps.size->(∀t,(∀j,writer (ops.take k) 0 t=some j->j∈preds o)->slotFact (ops.take k) F a a' w' t)->if Region.wanted o (yielded ops.toArray a'.tmps)then aCZ P G (F.getD i fun _ _=>True) w' ((execOp a'.eval o).run P w')else(F.getD i fun _ _=>True) undef w'
def putAll(a:Act):List Oper->List Value->Act|o::l,v::vs=>putAll (a.put o.dst v) l vs|_,_=>a
def forAllV:List (Value->World->Prop)->World->(List Value->Prop)->Prop|[],_,K=>K []|R::Rs,w,K=>∀v,R v w->forAllV Rs w fun vs=>K (v::vs)
theorem AM:∀{F:List (Value->World->Prop)}{w:World}{K:List Value->Prop},forAllV F w K->∀vs,vs.length=F.length->(∀(i:Nat) (R:Value->World->Prop) (v:Value),F[i]?=some R->vs[i]?=some v->R v w)->K vs|[],_,_,h,[],_,_=>h|[],_,_,_,_::_,hl,_=>by simp_all|_::_,_,_,_,[],hl,_=>by simp_all|R::Rs,w,K,h,v::vs,hl,hR=>AM (h v (hR 0 R v rfl rfl)) vs (by simp_all) (fun i R' v' h1 h2=>hR (i+1) R' v' (by simp_all) (by simp_all))
structure Inv(G:World→World→Prop)(ops:List Oper)(k:Nat)(F:List (Value→World→Prop))(a:Act)(w:World)(listed:Array Bool)(a':Act)(w':World):Prop where
 grow:G w w'
 size:a'.tmps.size=a.tmps.size
 defers:a'.defers=a.defers
 facts:∀ j o t,j<k→ops[j]?=some o→o.dst=some t→listed.getD j true=true→(F.getD j fun _ _=>True) (a'.tmps.getD t undef) w'
 rest:∀ t,(∀ j o,j<k→ops[j]?=some o→o.dst=some t→listed.getD j true=false)→a'.tmps.getD t undef=a.tmps.getD t undef
 lsize:listed.size=ops.length
 closed:Closed ops listed
 late:∀ j,k≤j→j<ops.length→listed.getD j true=false
theorem getD_put{a:Act}{t d:Tmp}{v:Value}(hd:d<a.tmps.size):(a.put (some d) v).tmps.getD t undef=if t=d then v else a.tmps.getD t undef:=by simp[Act.put];by_cases h:t=d;{simp_all};{simp[h,Ne.symm h]}
theorem size_put{a:Act}{d:Option Tmp}{v:Value}:(a.put d v).tmps.size=a.tmps.size:=by cases d<;>simp[Act.put]
theorem defers_put{a:Act}{d:Option Tmp}{v:Value}:(a.put d v).defers=a.defers:=by cases d<;>simp[Act.put]
theorem getD_set_true{listed:Array Bool}{i j:Nat}(h:(listed.setIfInBounds i true).getD j true=false):j≠i/\listed.getD j true=false:=by simp at*;by_cases hij:i=j;{grind};grind
theorem getD_set_other{listed:Array Bool}{i j:Nat}(h:(listed.setIfInBounds i true).getD j true=true)(hj:j≠i):listed.getD j true=true:=by simp at*;grind
theorem getD_set_keeps{listed:Array Bool}{i j:Nat}(h:listed.getD j true=true):(listed.setIfInBounds i true).getD j true=true:=by cases h':(listed.setIfInBounds i true).getD j true with|true=>rfl|false=>rw[(getD_set_true h').2]at h;omega
theorem closed_set{listed:Array Bool}{i:Nat}(hc:Closed ops listed)(hi:i∈Region.ready .any ops.toArray listed):Closed ops (listed.setIfInBounds i true):=by obtain⟨-,o,ho,hp⟩:=ready_spec.1 hi;intro j oj hj hl p hpm;by_cases hji:j=i;{subst hji;obtain rfl:=Option.some.inj (ho.symm.trans hj);exact getD_set_keeps (getD_mono (hp p hpm))};{exact getD_set_keeps (hc j oj hj (getD_set_other hl hji) p hpm)}
theorem take_get{k i:Nat}{o:Oper}(h:(ops.take k)[i]?=some o):ops[i]?=some o/\i<k:=by grind
theorem Inv.step{G:World->World->Prop}{k:Nat}{F:List (Value->World->Prop)}{a a':Act}{w w' w'':World}{listed:Array Bool}{i:Nat}{o:Oper}{v:Value}(hst:∀i v w1 w2,G w w1->G w1 w2->(F.getD i fun _ _=>True) v w1->(F.getD i fun _ _=>True) v w2) (htr:∀{a b c},G a b->G b c->G a c) (hf:fine ops a.tmps.size k=true) (ho:ops[i]?=some o) (hik:i<k) (hi:i∈Region.ready .any ops.toArray listed) (h:Inv G ops k F a w listed a' w') (hG:G w' w'') (hR:(F.getD i fun _ _=>True) v w''):Inv G ops k F a w (listed.setIfInBounds i true) (a'.put o.dst v) w'':=by obtain⟨-,d,hd,hdn,hdw⟩:=fine_at hf ho hik;rw[hd];(have hlt:d<a'.tmps.size:=by rw[h.size];omega);refine⟨htr h.grow hG,by rw[size_put,h.size],by rw[defers_put,h.defers],fun j oj t hjk hj ht hl=>?_,fun t ht=>?_,by simpa using h.lsize,closed_set h.closed hi,fun j hj hjl=>?_⟩;{by_cases hji:j=i;{subst hji;obtain rfl:=Option.some.inj (ho.symm.trans hj);obtain rfl:=Option.some.inj (hd.symm.trans ht);simp only[getD_put hlt,if_true];omega};{have h1:=hst j _ w' w'' h.grow hG (h.facts j oj t hjk hj ht (getD_set_other hl hji));rw[getD_put hlt,if_neg];{omega};{intro e;obtain⟨-,d',hd',-,hdw'⟩:=fine_at hf hj hjk;simp_all}}};{have hold:=h.rest t fun j oj hjk hj hdj=>(getD_set_true (ht j oj hjk hj hdj)).2;rw[getD_put hlt,if_neg];{omega};{intro e;subst e;exact absurd rfl (getD_set_true (ht i o hik ho hd)).1}};{cases h':(listed.setIfInBounds i true).getD j true with|false=>rfl|true=>have:=getD_set_other h' (by omega);rw[h.late j hj hjl]at this;simp_all}
theorem Inv.seen{G:World->World->Prop}{k:Nat}{F:List (Value->World->Prop)}{a a':Act}{w w':World}{listed:Array Bool}{i:Nat}{o:Oper}(hf:fine ops a.tmps.size k=true) (ho:ops[i]?=some o) (hik:i<k) (hr:i∈Region.ready .any ops.toArray listed) (h:Inv G ops k F a w listed a' w'):∀t,(∀j,writer (ops.take k) 0 t=some j->j∈preds o)->slotFact (ops.take k) F a a' w' t:=by intro t h1;obtain⟨-,o',ho',hall⟩:=ready_spec.1 hr;obtain rfl:=Option.some.inj (ho'.symm.trans ho);unfold slotFact;cases hw:writer (ops.take k) 0 t with|none=>refine h.rest t fun j oj hjk hj hd=>absurd hd (writer_none hw oj ?_);exact List.mem_of_getElem? (by simp_all:(ops.take k)[j]?=some oj)|some j=>obtain⟨-,oj,hoj,hd⟩:=writer_some hw;obtain⟨hoj',hjk⟩:=take_get (by omega);exact h.facts j oj t hjk hoj' hd (getD_mono (hall j (h1 j hw)))
theorem size_of_getD{listed:Array Bool}{i:Nat}(hl:listed.getD i true=false):i<listed.size:=by grind
theorem count_set{listed:Array Bool}{i:Nat}(hl:listed.getD i true=false):(listed.setIfInBounds i true).toList.count false+1=listed.toList.count false:=by have hlt:=size_of_getD hl;(have hi':listed[i]=false:=by simp_all);grind
theorem count_zero{listed:Array Bool}(hc:listed.toList.count false<=0):Region.ready .any ops.toArray listed=[]:=by refine List.eq_nil_iff_forall_not_mem.2 fun j hj=>?_;obtain⟨hl,-⟩:=ready_spec.1 hj;have:=count_set hl;omega
def mY(a':Act)(ops:List Oper):List Value:=ops.map fun o=>match o.dst with|some t=>a'.tmps.getD t undef|none=>undef
theorem yL:∀(l:List Oper) (vs:List Value) (a:Act) (t:Tmp),vs.length=l.length->(∀o∈l,∀d,o.dst=some d->d<a.tmps.size)->(putAll a l vs).tmps.size=a.tmps.size/\(putAll a l vs).defers=a.defers/\((∀o∈l,o.dst≠some t)->(putAll a l vs).tmps.getD t undef=a.tmps.getD t undef)/\(∀(i:Nat) o v,l[i]?=some o->vs[i]?=some v->o.dst=some t->(∀(j:Nat) o',l[j]?=some o'->o'.dst=some t->j=i)->(putAll a l vs).tmps.getD t undef=v)|[],[],a,t,_,_=>⟨rfl,rfl,fun _=>rfl,fun i o v h=>by simp⟩|[],_::_,_,_,h,_=>by simp_all|_::_,[],_,_,h,_=>by simp_all|o::l,v::vs,a,t,hl,hd=>by have ih:=yL l vs (a.put o.dst v) t (by simp_all) (fun o' ho' d hd'=>by rw[size_put];grind);obtain⟨i1,i2,i3,i4⟩:=ih;refine⟨by rw[putAll,i1,size_put],by rw[putAll,i2,defers_put],fun hno=>?_,fun i oi vi hoi hvi hdi huniq=>?_⟩;{rw[putAll,i3 fun o' ho'=>hno o' (.tail _ ho')];cases hdd:o.dst with|none=>rfl|some d=>rw[getD_put (hd o (.head _) d hdd),if_neg];rintro rfl;simp_all};{cases i with|zero=>simp at hoi hvi;subst hoi hvi;rw[putAll,i3];{rw[hdi,getD_put (hd o (.head _) t hdi),if_pos rfl]};{intro o' ho' hd';obtain⟨k,hk⟩:=List.mem_iff_getElem?.1 ho';have:=huniq (k+1) o' (by simpa using hk) hd';omega}|succ i=>rw[putAll];refine i4 i oi vi (by simpa using hoi) (by simpa using hvi) hdi fun j o' hj hd'=>?_;have:=huniq (j+1) o' (by simpa using hj) hd';omega}
theorem Inv.full{G:World->World->Prop}{k:Nat}{F:List (Value->World->Prop)}{a a':Act}{w w':World}{listed:Array Bool}(hf:fine ops a.tmps.size k=true)(hlen:F.length=k) (I:Inv G ops k F a w listed a' w') (hall:∀j,j<k->listed.getD j true=true){K:Act->Prop}(hQ:forAllV F w' fun vs=>K (putAll a (ops.take k) vs)):K a':=by have hk:=fine_le hf;have hv:=AM hQ (mY a' (ops.take k)) (by simp[mY,hlen];omega) ?_;{(have e:putAll a (ops.take k) (mY a' (ops.take k))=a':=by(have hd:∀o∈ops.take k,∀d,o.dst=some d->d<a.tmps.size:=fun o ho d hd=>by obtain⟨i,hi⟩:=List.mem_iff_getElem?.1 ho;obtain⟨hi',hik⟩:=take_get hi;obtain⟨-,d',hd',hdn,-⟩:=fine_at hf hi' hik;simp_all);have hs:=fun t=>yL (ops.take k) (mY a' (ops.take k)) a t (by simp[mY]) hd;(have e1:(putAll a (ops.take k) (mY a' (ops.take k))).tmps=a'.tmps:=by refine Array.ext (by rw[(hs 0).1,I.size]) fun t h1 h2=>?_;(have hg:(putAll a (ops.take k) (mY a' (ops.take k))).tmps.getD t undef=a'.tmps.getD t undef:=by cases hw:writer (ops.take k) 0 t with|none=>rw[(hs t).2.2.1 (writer_none hw),I.rest t fun j o hjk hj hd'=>absurd hd' (writer_none hw o (List.mem_of_getElem? (by rw[List.getElem?_take_of_lt hjk];omega:(ops.take k)[j]?=some o)))]|some i=>obtain⟨-,o,ho,hdo⟩:=writer_some hw;(have ho1:(ops.take k)[i]?=some o:=by omega);refine(hs t).2.2.2 i o _ ho1 ?_ hdo fun j o' hj hd'=>?_;{simp only[mY,List.getElem?_map,ho1,Option.map_some,hdo]};{obtain⟨hj',hjk⟩:=take_get hj;obtain⟨-,d',hd'',-,hw'⟩:=fine_at hf hj' hjk;simp_all});simp_all);(have e2:(putAll a (ops.take k) (mY a' (ops.take k))).defers=a'.defers:=by rw[(hs 0).2.1,I.defers]);cases hp:putAll a (ops.take k) (mY a' (ops.take k));simp_all);simp_all};{intro i R v hR hvi;(have hlt:i<k:=by have:=lt_of_get hR;omega);(have hio:i<ops.length:=by omega);have ho:ops[i]?=some ops[i]:=List.getElem?_eq_getElem hio;obtain⟨-,d,hd,-⟩:=fine_at hf ho hlt;have:=I.facts i ops[i] d hlt ho hd (hall i hlt);simp only[List.getD_eq_getElem?_getD,hR,Option.getD_some]at this;(have ho1:(ops.take k)[i]?=some ops[i]:=by simp_all);simp only[mY,List.getElem?_map,ho1,Option.map_some,Option.some.injEq,hd]at hvi;simp_all}
theorem Inv.start{G:World->World->Prop}{k:Nat}{F:List (Value->World->Prop)}{a:Act}{w w':World}(hG:G w w'):Inv G ops k F a w (Array.replicate ops.length false) a w':=⟨hG,rfl,rfl,fun j o t hj ho _ hl=>by have:=lt_of_get ho;simp_all,fun t _=>rfl,by simp,fun i o ho hl=>by have:=lt_of_get ho;simp_all,fun j _ hj=>by simp_all⟩
theorem count_start(n:Nat):(Array.replicate n false).toList.count false<=n:=by simp
structure Rec where
 looks:List (Tmp×Option Nat)
 guard:Option (Tmp×Bool)
def bK(ops:List Oper)(k:Nat)(D:List Rec):Bool:=decide (D.length=k)&&(List.range k).all fun i=>match ops[i]?,D[i]? with|some o,some d=>d.looks.all (fun(t,j)=>writer (ops.take k) 0 t==j&&(match j with|none=>true|some j=>(preds o).contains j))&&(match o.guard,d.guard with|none,none=>true|some (g,b),some (t,b')=>(b==b')&&(ops[g]?).bind (·.dst)==some t|_,_=>false)|_,_=>false
def Z2(F:List (Value->World->Prop))(a a':Act)(w':World):List (Tmp×Option Nat)->Prop->Prop|[],Q=>Q|(t,none)::l,Q=>a'.tmps.getD t undef=a.tmps.getD t undef->Z2 F a a' w' l Q|(t,some j)::l,Q=>(F.getD j fun _ _=>True) (a'.tmps.getD t undef) w'->Z2 F a a' w' l Q
def aDw(a':Act):Option (Tmp×Bool)->Prop->Prop->Prop|none,Q,_=>Q|some (t,b),Q,Q'=>∃b':Bool,a'.tmps.getD t undef=.bool b'/\(b'=b->Q)/\(b'≠b->Q')
theorem aDj{G:World->World->Prop}{R:Value->World->Prop}{i:Nat}{o:Oper}{a':Act}{w':World}{K:Act->World->Prop}{Q:Exit->Act->World->Prop}(ho:ops[i]?=some o)(hrefl:G w' w') (hgo:if Region.wanted o (yielded ops.toArray a'.tmps)then aCZ P G R w' ((execOp a'.eval o).run P w')else R undef w') (hK:∀v w'',G w' w''->R v w''->K (a'.put o.dst v) w''):wpOp P ops.toArray Q i K a' w':=by unfold wpOp;(have ho':ops.toArray[i]?=some o:=by simp_all);simp[ho'];split;{rename_i hw;rw[if_pos hw]at hgo;refine .inl ?_;unfold Oper.wp;generalize (execOp a'.eval o).run P w'=r at hgo⊢;cases r with|ok n w2=>cases n<;>simp[aCZ]at hgo<;>simp[Oper.upon];(case value v=>simp_all);(case skip=>simp_all);case enter f args=>exact hgo.mono fun e w'' ⟨v,he,hG,hR⟩=>by simp_all|halt x w2=>simp[aCZ]at hgo};simp_all
theorem KR{m:Nat}{o:Oper}{Q:Exit->Act->World->Prop}{a':Act}{w':World}(ho:ops[m]?=some o)(h:wpList P ops.toArray Q (ops.drop m) a' w'):wpOp P ops.toArray Q m (wpList P ops.toArray Q (ops.drop (m+1))) a' w':=by have hlt:=lt_of_get ho;(have e:ops.drop m=o::ops.drop (m+1):=by rw[List.drop_eq_getElem_cons hlt];simp_all);rw[e]at h;unfold wpOp;(have ho':ops.toArray[m]?=some o:=by simp_all);simp[ho'];exact h
theorem NF{n k:Nat}{Q:Exit->Act->World->Prop}(hf:fine ops n k=true):∀(fuel m:Nat) (listed:Array Bool) (a':Act) (w':World),k<=m->listed.size=ops.length->Closed ops listed->listed.toList.count false<=fuel->(∀j,j<m->listed.getD j true=true)->(∀j,m<=j->j<ops.length->listed.getD j true=false)->wpList P ops.toArray Q (ops.drop m) a' w'->wpAny P .any ops.toArray Q fuel listed a' w':=by(have hend:∀(m:Nat) (listed:Array Bool) (a':Act) (w':World),listed.size=ops.length->(∀j,m<=j->j<ops.length->listed.getD j true=false)->wpList P ops.toArray Q (ops.drop m) a' w'->Region.ready .any ops.toArray listed=[]->Q .normal a' w':=by intro m listed a' w' hsz hl h hr;(have hm:ops.length<=m:=by rcases Nat.lt_or_ge m ops.length with h'|h';{have h1:=hl m (Nat.le_refl _) h';rw[ready_nil hsz (fine_anc hf) hr m]at h1;cases h1};omega);rw[List.drop_eq_nil_of_le hm]at h;exact h);intro fuel;induction fuel with|zero=>intro m listed a' w' hk hsz hc hcnt hlo hhi h;exact⟨count_zero hcnt,hend m listed a' w' hsz hhi h (count_zero hcnt)⟩|succ fuel ih=>intro m listed a' w' hk hsz hc hcnt hlo hhi h;refine⟨hend m listed a' w' hsz hhi h,fun i hi=>?_⟩;obtain⟨hl,o,ho,-⟩:=ready_spec.1 hi;(have him:m<=i:=by rcases Nat.lt_or_ge i m with h'|h';{simp_all};omega);(obtain rfl:i=m:=by rcases Nat.lt_or_ge m i with h'|h';{have h1:=mH hf hc hi (by omega) m h';rw[hhi m (Nat.le_refl _) (by have:=lt_of_get ho;omega)]at h1;cases h1};omega);refine wpOp_mono (fun a2 w2 h2=>ih (i+1) _ a2 w2 (by omega) (by simp_all) (closed_set hc hi) (by have:=count_set hl;omega) (fun j hj=>?_) (fun j hj hjl=>?_) h2) (KR ho h);{by_cases hji:j=i;{subst hji;simp};{exact getD_set_keeps (hlo j (by omega))}};{cases h':(listed.setIfInBounds i true).getD j true with|false=>rfl|true=>have:=getD_set_other h' (by omega);rw[hhi j (by omega) hjl]at this;cases this}
theorem aRL{G:World->World->Prop}{k:Nat}{F:List (Value->World->Prop)}{Q:Exit->Act->World->Prop}{a:Act}{w:World}(hf:fine ops a.tmps.size k=true)(hlen:F.length=k) (hrefl:∀w,G w w) (htr:∀{a b c},G a b->G b c->G a c) (hst:∀i v w1 w2,G w w1->G w1 w2->(F.getD i fun _ _=>True) v w1->(F.getD i fun _ _=>True) v w2) (hop:∀i o,i<k->ops[i]?=some o->aKV P G ops k F a w i o) (hQ:∀w',G w w'->forAllV F w' fun vs=>wpList P ops.toArray Q (ops.drop k) (putAll a (ops.take k) vs) w'):∀(fuel:Nat) (listed:Array Bool) (a':Act) (w':World),listed.toList.count false<=fuel->Inv G ops k F a w listed a' w'->wpAny P .any ops.toArray Q fuel listed a' w':=by(have hend:∀(fuel:Nat) (listed:Array Bool) (a':Act) (w':World),listed.toList.count false<=fuel->Inv G ops k F a w listed a' w'->(∀j,j<k->listed.getD j true=true)->wpAny P .any ops.toArray Q fuel listed a' w':=by intro fuel listed a' w' hcnt I hall;exact NF hf fuel k listed a' w' (Nat.le_refl _) I.lsize I.closed hcnt hall I.late (I.full (K:=fun a'=>wpList P ops.toArray Q (ops.drop k) a' w') hf hlen hall (hQ w' I.grow)));intro fuel;induction fuel with|zero=>intro listed a' w' hcnt I;exact hend 0 listed a' w' hcnt I fun j _=>ready_nil I.lsize (fine_anc hf) (count_zero hcnt) j|succ fuel ih=>intro listed a' w' hcnt I;by_cases hall:∀j,j<k->listed.getD j true=true;{simp_all};{refine⟨fun hr=>absurd (fun j _=>ready_nil I.lsize (fine_anc hf) hr j) hall,fun i hi=>?_⟩;obtain⟨hl,o,ho,-⟩:=ready_spec.1 hi;(have hik:i<k:=by rcases Nat.lt_or_ge i k with h'|h';{omega};{exact absurd (fun j hj=>mH hf I.closed hi h' j (by omega)) hall});refine aDj ho (hrefl _) (hop i o hik ho a' w' I.grow I.size (I.seen hf ho hik hi)) fun v w'' hG hR=>?_;exact ih _ _ _ (by have:=count_set hl;omega) (I.step hst htr hf ho hik hi hG hR)}
theorem J5{F:List (Value->World->Prop)}{G:World->World->Prop}{w:World}(hst:∀R∈F,∀v w1 w2,G w w1->G w1 w2->R v w1->R v w2):∀i v w1 w2,G w w1->G w1 w2->(F.getD i fun _ _=>True) v w1->(F.getD i fun _ _=>True) v w2:=by intro i v w1 w2 h1 h2 h3;rw[List.getD_eq_getElem?_getD]at h3⊢;cases hi:F[i]? with|none=>simp|some R=>simp[hi]at h3⊢;exact hst R (List.mem_of_getElem? hi) v w1 w2 h1 h2 h3
def Lex(P:Program)(G:World->World->Prop)(a:Act)(w:World)(K:List (Value->World->Prop)->Prop):List Oper->List Rec->List (Value->World->Prop)->Prop|o::l,d::D,F=>∃R:Value->World->Prop,(∀v w1 w2,G w w1->G w1 w2->R v w1->R v w2)/\(∀(a':Act) (w':World),G w w'->Z2 F a a' w' d.looks (aDw a' d.guard (aCZ P G R w' ((execOp a'.eval o).run P w')) (R undef w')))/\Lex P G a w K l D (F++[R])|_,_,F=>K F
section
variable{Fe:Fence}{n:Nat}
def opOkIn(Fe:Fence)(n:Nat)(P:Program)(G:World->World->Prop)(R:Value->World->Prop)(w:World):Result Next->Prop|.ok (.value v) w'=>G w w'/\R v w'|.ok .skip w'=>G w w'/\R undef w'|.ok (.enter f args) w'=>CallsIn Fe (n-1) P f args w' fun e w''=>∃v,e=.returned v/\G w w''/\R v w''|_=>False
def KJ(Fe:Fence)(n:Nat)(P:Program)(G:World->World->Prop)(ops:List Oper)(k:Nat)(F:List (Value->World->Prop))(a:Act)(w:World)(i:Nat)(o:Oper):Prop:=∀(a':Act) (w':World),G w w'->a'.tmps.size=a.tmps.size->(∀t,(∀j,writer (ops.take k) 0 t=some j->j∈preds o)->slotFact (ops.take k) F a a' w' t)->if Region.wanted o (yielded ops.toArray a'.tmps)then opOkIn Fe n P G (F.getD i fun _ _=>True) w' ((o.semAt Fe.round a'.eval).run P w')else(F.getD i fun _ _=>True) undef w'
theorem wpOpIn_ok{G:World->World->Prop}{R:Value->World->Prop}{i:Nat}{o:Oper}{a':Act}{w':World}{K:Act->World->Prop}{Q:Exit->Act->World->Prop}(hFn:∀f,Fe.fn f)(hFd:Fe.depth=none)(ho:ops[i]?=some o)(hrefl:G w' w') (hgo:if Region.wanted o (yielded ops.toArray a'.tmps)then opOkIn Fe n P G R w' ((o.semAt Fe.round a'.eval).run P w')else R undef w') (hK:∀v w'',G w' w''->R v w''->K (a'.put o.dst v) w''):wpOpIn Fe n P ops.toArray Q i K a' w':=by unfold wpOpIn;(have ho':ops.toArray[i]?=some o:=by simp_all);simp[ho'];split;{rename_i hw;rw[if_pos hw]at hgo;refine⟨fun f _=>hFn f,?_⟩;generalize (o.semAt Fe.round a'.eval).run P w'=r at hgo⊢;cases r with|ok n w2=>cases n<;>simp[opOkIn]at hgo<;>simp[Oper.uponIn];(case value v=>simp_all);(case skip=>simp_all);case enter f args=>exact⟨(fun h=>(by simp_all)),hgo.mono fun e w'' ⟨v,he,hG,hR⟩=>by simp_all⟩|halt x w2=>simp[opOkIn]at hgo};simp_all
theorem B2{m:Nat}{o:Oper}{Q:Exit->Act->World->Prop}{a':Act}{w':World}(ho:ops[m]?=some o)(h:wpListIn Fe n P ops.toArray Q (ops.drop m) a' w'):wpOpIn Fe n P ops.toArray Q m (wpListIn Fe n P ops.toArray Q (ops.drop (m+1))) a' w':=by have hlt:=lt_of_get ho;(have e:ops.drop m=o::ops.drop (m+1):=by rw[List.drop_eq_getElem_cons hlt];simp_all);rw[e]at h;unfold wpOpIn;(have ho':ops.toArray[m]?=some o:=by simp_all);simp[ho'];exact h
theorem E3{N k:Nat}{Q:Exit->Act->World->Prop}(hf:fine ops N k=true):∀(fuel m:Nat) (listed:Array Bool) (a':Act) (w':World),k<=m->listed.size=ops.length->Closed ops listed->listed.toList.count false<=fuel->(∀j,j<m->listed.getD j true=true)->(∀j,m<=j->j<ops.length->listed.getD j true=false)->wpListIn Fe n P ops.toArray Q (ops.drop m) a' w'->wpAnyIn Fe n P .any ops.toArray Q fuel listed a' w':=by(have hend:∀(m:Nat) (listed:Array Bool) (a':Act) (w':World),listed.size=ops.length->(∀j,m<=j->j<ops.length->listed.getD j true=false)->wpListIn Fe n P ops.toArray Q (ops.drop m) a' w'->Region.ready .any ops.toArray listed=[]->Q .normal a' w':=by intro m listed a' w' hsz hl h hr;(have hm:ops.length<=m:=by rcases Nat.lt_or_ge m ops.length with h'|h';{have h1:=hl m (Nat.le_refl _) h';rw[ready_nil hsz (fine_anc hf) hr m]at h1;cases h1};omega);rw[List.drop_eq_nil_of_le hm]at h;exact h);intro fuel;induction fuel with|zero=>intro m listed a' w' hk hsz hc hcnt hlo hhi h;exact⟨count_zero hcnt,hend m listed a' w' hsz hhi h (count_zero hcnt)⟩|succ fuel ih=>intro m listed a' w' hk hsz hc hcnt hlo hhi h;refine⟨hend m listed a' w' hsz hhi h,fun i hi=>?_⟩;obtain⟨hl,o,ho,-⟩:=ready_spec.1 hi;(have him:m<=i:=by rcases Nat.lt_or_ge i m with h'|h';{simp_all};omega);(obtain rfl:i=m:=by rcases Nat.lt_or_ge m i with h'|h';{have h1:=mH hf hc hi (by omega) m h';rw[hhi m (Nat.le_refl _) (by have:=lt_of_get ho;omega)]at h1;cases h1};omega);refine wpOpIn_mono (fun a2 w2 h2=>ih (i+1) _ a2 w2 (by omega) (by simp_all) (closed_set hc hi) (by have:=count_set hl;omega) (fun j hj=>?_) (fun j hj hjl=>?_) h2) (B2 ho h);{by_cases hji:j=i;{subst hji;simp};{exact getD_set_keeps (hlo j (by omega))}};{cases h':(listed.setIfInBounds i true).getD j true with|false=>rfl|true=>have:=getD_set_other h' (by omega);rw[hhi j (by omega) hjl]at this;cases this}
theorem KN(hFn:∀f,Fe.fn f)(hFd:Fe.depth=none){G:World->World->Prop}{k:Nat}{F:List (Value->World->Prop)}{Q:Exit->Act->World->Prop}{a:Act}{w:World}(hf:fine ops a.tmps.size k=true)(hlen:F.length=k) (hrefl:∀w,G w w) (htr:∀{a b c},G a b->G b c->G a c) (hst:∀i v w1 w2,G w w1->G w1 w2->(F.getD i fun _ _=>True) v w1->(F.getD i fun _ _=>True) v w2) (hop:∀i o,i<k->ops[i]?=some o->KJ Fe n P G ops k F a w i o) (hQ:∀w',G w w'->forAllV F w' fun vs=>wpListIn Fe n P ops.toArray Q (ops.drop k) (putAll a (ops.take k) vs) w'):∀(fuel:Nat) (listed:Array Bool) (a':Act) (w':World),listed.toList.count false<=fuel->Inv G ops k F a w listed a' w'->wpAnyIn Fe n P .any ops.toArray Q fuel listed a' w':=by(have hend:∀(fuel:Nat) (listed:Array Bool) (a':Act) (w':World),listed.toList.count false<=fuel->Inv G ops k F a w listed a' w'->(∀j,j<k->listed.getD j true=true)->wpAnyIn Fe n P .any ops.toArray Q fuel listed a' w':=by intro fuel listed a' w' hcnt I hall;exact E3 hf fuel k listed a' w' (Nat.le_refl _) I.lsize I.closed hcnt hall I.late (I.full (K:=fun a'=>wpListIn Fe n P ops.toArray Q (ops.drop k) a' w') hf hlen hall (hQ w' I.grow)));intro fuel;induction fuel with|zero=>intro listed a' w' hcnt I;exact hend 0 listed a' w' hcnt I fun j _=>ready_nil I.lsize (fine_anc hf) (count_zero hcnt) j|succ fuel ih=>intro listed a' w' hcnt I;by_cases hall:∀j,j<k->listed.getD j true=true;{simp_all};{refine⟨fun hr=>absurd (fun j _=>ready_nil I.lsize (fine_anc hf) hr j) hall,fun i hi=>?_⟩;obtain⟨hl,o,ho,-⟩:=ready_spec.1 hi;(have hik:i<k:=by rcases Nat.lt_or_ge i k with h'|h';{omega};{exact absurd (fun j hj=>mH hf I.closed hi h' j (by omega)) hall});refine wpOpIn_ok hFn hFd ho (hrefl _) (hop i o hik ho a' w' I.grow I.size (I.seen hf ho hik hi)) fun v w'' hG hR=>?_;exact ih _ _ _ (by have:=count_set hl;omega) (I.step hst htr hf ho hik hi hG hR)}
theorem wpIn_region_rel(hFn:∀f,Fe.fn f)(hFd:Fe.depth=none){id:Nat}{Q:Exit->Act->World->Prop}{a:Act}{w:World}(k:Nat)(G:World->World->Prop)(F:List (Value->World->Prop))(hm:P.follows .mixedOrders=true) (hf:fine ops a.tmps.size k=true) (hlen:F.length=k) (hrefl:∀w,G w w) (htr:∀{a b c},G a b->G b c->G a c) (hdrew:G w w.drew) (hst:∀R∈F,∀v w1 w2,G w w1->G w1 w2->R v w1->R v w2) (hop:∀i o,i<k->ops[i]?=some o->KJ Fe n P G ops k F a w i o) (hQ:∀w',G w w'->forAllV F w' fun vs=>wpListIn Fe n P ops.toArray Q (ops.drop k) (putAll a (ops.take k) vs) w'):(Code.region id ops.toArray true).wpIn Fe n P Q a w:=by refine wpIn_region_any hm ?_;have:=KN hFn hFd hf hlen hrefl htr (J5 hst) hop hQ _ _ _ _ (count_start ops.length) (Inv.start hdrew);simp_all
end
end Go.Proofs.YthoaemjdfccalaaGreatDoor.Rel
namespace Go.Proofs.YthoaemjdfccalaaGreatDoor.Ev
open Go Go.RowKit
structure MOp where
 dst:Option Nat
 op:Op
 guard:Option (Nat×Bool)
inductive M where
 |skip
 |reg (keep:List Nat) (ops:List MOp) (free:Nat)
 |ops (ops:List MOp)
 |again (ops:List MOp)
 |seq (a b:M)
 |cond (c:Operand) (a b:M)
 |block (id:Nat) (a:M)
 |loop (a:M)
 |rf (g:Operand) (nt:Nat) (ps sl:List Nat) (a b:M)
 |exit (id:Nat)
 |ret
 |bad
inductive A where
 |v (x:Value)
 |agg (cs:List A)
 |tup (vs:List A)
 |ptr (b off:Nat)
 |ref (b off len sz:Nat)
 |sl (len:Nat) (cs:List A)
 |fp (cs:List A)
 |mp (b:Nat)
 |mf (cs:List A)
 |clo (f:FuncId) (fs caps:List A)
 |yl (b:Nat)
 |lrec (nt:Nat) (ps sl:List Nat) (a b:M)
 |it (b:Nat)
 |its (s:ByteArray) (pos:Nat)
instance:Inhabited A:=⟨.v undef⟩
structure Blk where
 e:TypeId
 cs:List A
 whole:Bool
abbrev aF:=List (Option Blk)
structure GD where
 tab:Nat→Option (List Value)
 lk:Nat→List Nat→List Nat→M→M→Loop→Prop
 ifs:Nat→Bool:=fun _=>false
def rK(w:World)(g off:Nat)(xs:List Value):Prop:=∀(i:Nat) x,xs[i]?=some x->w.cell? ⟨g,off+i,none⟩=some x
def gL(es:List MapEntry):List Value:=es.flatMap fun e=>[e.key,e.val]
mutual
def R(ρ:List Nat)(own:Nat→Prop)(w:World):A→Value→Prop
 |.v x,y=>y=x
 |.agg cs,y=>∃ xs:List Value,y=.agg xs.toArray∧RL ρ own w cs xs
 |.tup cs,y=>∃ xs:List Value,y=.tuple xs.toArray∧RL ρ own w cs xs
 |.ptr b off,y=>∃ g,ρ[b]?=some g∧y=.pointer (some ⟨g,off,none⟩)∧∃ cur e fz,w.heap[g]?=some (.cells cur e fz)
 |.ref b off len sz,y=>∃ g cap cur e fz,ρ[b]?=some g∧y=.slice (some ⟨g,off,none⟩) len cap∧len≤cap∧cap≤maxLen∧w.heap[g]?=some (.cells cur e fz)∧off+cap*sz≤cur.size
 |.sl len cs,y=>(len=0∧cs=[]∧∃ a cap,y=.slice a 0 cap)∨∃ g off cap xs,y=.slice (some ⟨g,off,none⟩) len cap∧len≤cap∧g<w.heap.size∧¬ own g∧RL [] own w cs xs∧rK w g off xs
 |.fp cs,y=>∃ g off xs,y=.pointer (some ⟨g,off,none⟩)∧g<w.heap.size∧¬ own g∧RL [] own w cs xs∧rK w g off xs
 |.mp b,y=>∃ g,ρ[b]?=some g∧y=.map (some g)∧∃ es n,w.heap[g]?=some (.map es n)
 |.mf cs,y=>(cs=[]∧y=.map none)∨∃ g es n,y=.map (some g)∧g<w.heap.size∧¬ own g∧w.heap[g]?=some (.map es n)∧RL [] own w cs (gL es.toList)
 |.clo f fs caps,y=>∃ xs ys:List Value,y=.func (.func f) xs.toArray ys.toArray∧RL ρ own w fs xs∧RL ρ own w caps ys
 |.yl b,y=>∃ g,ρ[b]?=some g∧y=.func (.yield g) #[] #[]∧∃ r,w.heap[g]?=some (.loop r)
 |.lrec _ _ _ _ _,_=>False
 |.it b,y=>∃ g,ρ[b]?=some g∧y=.pointer (some ⟨g,0,none⟩)∧∃ s p,w.heap[g]?=some (.stringIter s p)
 |.its _ _,_=>False
def RL(ρ:List Nat)(own:Nat→Prop)(w:World):List A→List Value→Prop
 |[],ys=>ys=[]
 |c::cs,ys=>∃ x xs,ys=x::xs∧R ρ own w c x∧RL ρ own w cs xs
end
theorem RL.length{ρ:List Nat}{own:Nat->Prop}{w:World}:∀{cs:List A}{ys:List Value},RL ρ own w cs ys->ys.length=cs.length|[],_,h=>by rw[RL]at h;simp[h]|_::cs,_,h=>by obtain⟨x,xs,rfl,-,h2⟩:=h;simp[RL.length h2]
theorem RL.get{ρ:List Nat}{own:Nat->Prop}{w:World}:∀{cs:List A}{ys:List Value},RL ρ own w cs ys->∀(i:Nat) c,cs[i]?=some c->∃y,ys[i]?=some y/\R ρ own w c y|[],_,h,i,c,hc=>by simp_all|c0::cs,_,h,i,c,hc=>by obtain⟨x,xs,rfl,h1,h2⟩:=h;cases i with|zero=>simp_all|succ i=>simpa using RL.get h2 i c (by simp_all)
theorem RL.cons{ρ:List Nat}{own:Nat->Prop}{w:World}{c:A}{cs:List A}{x:Value}{xs:List Value}(h:R ρ own w c x)(h':RL ρ own w cs xs):RL ρ own w (c::cs) (x::xs):=by exact⟨x,xs,rfl,h,h'⟩
theorem RL.nil{ρ:List Nat}{own:Nat->Prop}{w:World}:RL ρ own w [] []:=by rw[RL]
theorem RL.append{ρ:List Nat}{own:Nat->Prop}{w:World}:∀{cs ds:List A}{xs ys:List Value},RL ρ own w cs xs->RL ρ own w ds ys->RL ρ own w (cs++ds) (xs++ys)|[],_,_,_,h,h'=>by rw[RL]at h;simp_all|c::cs,_,_,_,h,h'=>by obtain⟨x,xs,rfl,h1,h2⟩:=h;exact RL.cons h1 (RL.append h2 h')
theorem RL.take{ρ:List Nat}{own:Nat->Prop}{w:World}:∀{cs:List A}{xs:List Value}(n:Nat),RL ρ own w cs xs->RL ρ own w (cs.take n) (xs.take n)|_,_,0,_=>by simpa using RL.nil|[],_,n+1,h=>by subst h;simpa using RL.nil|c::cs,_,n+1,h=>by obtain⟨x,xs,rfl,h1,h2⟩:=h;exact RL.cons h1 (RL.take n h2)
theorem RL.drop{ρ:List Nat}{own:Nat->Prop}{w:World}:∀{cs:List A}{xs:List Value}(n:Nat),RL ρ own w cs xs->RL ρ own w (cs.drop n) (xs.drop n)|_,_,0,h=>h|[],_,n+1,h=>by subst h;simpa using RL.nil|c::cs,_,n+1,h=>by obtain⟨x,xs,rfl,h1,h2⟩:=h;simpa using RL.drop n h2
theorem RL.exact{ρ:List Nat}{own:Nat->Prop}{w:World}:∀(xs:List Value),RL ρ own w (xs.map A.v) xs|[]=>RL.nil|_::xs=>RL.cons (by rw[R]) (RL.exact xs)
theorem rK.take{w:World}{g off:Nat}{xs:List Value}(h:rK w g off xs)(n:Nat):rK w g off (xs.take n):=fun i x hx=>h i x (by grind)
theorem rK.drop{w:World}{g off:Nat}{xs:List Value}(h:rK w g off xs)(n:Nat):rK w g (off+n) (xs.drop n):=fun i x hx=>by rw[List.getElem?_drop]at hx;have:=h (n+i) x hx;grind
def img(ρ:List Nat)(H:aF)(g:Nat):Prop:=∃(b:Nat) (k:Blk),H[b]?=some (some k)/\ρ[b]?=some g
structure Cfg where
 ρ:List Nat
 own:Nat→Prop
 H:aF
 w:World
def Gl(Gd:GD)(own:Nat->Prop)(w:World):Prop:=(∀g xs,Gd.tab g=some xs->¬own g/\g<w.heap.size/\rK w g 0 xs/\∃e fz,w.heap[g]?=some (.cells xs.toArray e fz))/\∀g,Gd.ifs g=true->¬own g/\g<w.heap.size/\∃t p,w.cell? ⟨g,0,none⟩=some (.iface t p)
theorem Gl.less{Gd:GD}{own own':Nat->Prop}{w:World}(h:Gl Gd own w)(k:∀g,own' g->own g):Gl Gd own' w:=⟨fun g xs hg=>let⟨h1,h2,h3⟩:=h.1 g xs hg;⟨fun h=>h1 (k g h),h2,h3⟩,fun g hg=>let⟨h1,h2,h3⟩:=h.2 g hg;⟨fun h=>h1 (k g h),h2,h3⟩⟩
variable{Gd:GD}
def stV:LoopState->Value|.ready=>.int .i64 0|.busy=>.int .i64 1|.done=>.int .i64 2|.exhausted=>.int .i64 3
def peV:Option Code->Value|none=>.int .i64 0|some .ret=>.int .i64 1|some (.exit id)=>.int .i64 (id+2)|some _=>.nilIface
def aHl(sl:List Nat)(r:Loop):List Value:=stV r.state::peV r.pending::sl.map fun s=>r.tmps.getD s undef
def B0(es:Array MapEntry)(n:Nat):Prop:=n=es.size/\∀(i:Nat) e,es[i]?=some e->e.born=i
def WQ(Gd:GD)(ρ:List Nat)(own:Nat->Prop)(w:World)(e:TypeId)(cs:List A)(wh:Bool)(g:Nat):Prop:=(∃cur xs,w.heap[g]?=some (.cells cur e (0,0))/\RL ρ own w cs xs/\xs<+:cur.toList/\(wh=true->cur.size=cs.length))\/(∃es n,w.heap[g]?=some (.map es n)/\RL ρ own w cs (gL es.toList)/\B0 es n)\/(∃r nt ps sl a b rest,w.heap[g]?=some (.loop r)/\cs=.lrec nt ps sl a b::rest/\Gd.lk nt ps sl a b r/\RL ρ own w rest (aHl sl r))\/(∃s p,w.heap[g]?=some (.stringIter s p)/\cs=[.its s p])
structure Ok(Gd:GD)(c:Cfg):Prop where
 len:c.ρ.length=c.H.length
 lt:∀ g,c.own g→g<c.w.heap.size
 img:∀ g,img c.ρ c.H g→c.own g
 blk:∀(b:Nat) e cs wh (g:Nat),c.H[b]?=some (some ⟨e,cs,wh⟩)→c.ρ[b]?=some g→WQ Gd c.ρ c.own c.w e cs wh g
 inj:∀(b b':Nat) k k' (g:Nat),c.H[b]?=some (some k)→c.H[b']?=some (some k')→c.ρ[b]?=some g→c.ρ[b']?=some g→b=b'
 glob:Gl Gd c.own c.w
def jE:Obj->Nat|.loop _=>1|.stringIter _ _=>2|.mapIter _ _ _ _=>3|_=>0
theorem zV{o:Obj}(h:jE o=1):∃r,o=.loop r:=by cases o<;>simp[jE]at h;simp
theorem OV{o:Obj}(h:jE o=2):∃s p,o=.stringIter s p:=by cases o<;>simp[jE]at h;simp
structure To(c c':Cfg):Prop where
 pre:c.ρ <+: c'.ρ
 size:c.w.heap.size≤c'.w.heap.size
 os:c'.w.os=c.w.os
 tape:c'.w.tape=c.w.tape
 output:c'.w.output=c.w.output
 img:∀ g,g<c.w.heap.size→Ev.img c'.ρ c'.H g→Ev.img c.ρ c.H g
 same:∀ g,g<c.w.heap.size→¬ Ev.img c.ρ c.H g→c'.w.heap[g]?=c.w.heap[g]?
 shape:∀(g:Nat) (cur:Array Value) (e:TypeId) (fz:Nat×Nat),c.w.heap[g]?=some (.cells cur e fz)→∃(cur':Array Value) (fz':Nat×Nat),c'.w.heap[g]?=some (.cells cur' e fz')∧cur'.size=cur.size
 maps:∀(g:Nat) es n,c.w.heap[g]?=some (.map es n)→∃ es' n',c'.w.heap[g]?=some (.map es' n')
 kinds:∀(g:Nat) o,c.w.heap[g]?=some o→jE o≠0→∃ o',c'.w.heap[g]?=some o'∧jE o'=jE o
 own:∀ g,g<c.w.heap.size→(c'.own g→c.own g)∧(c.own g→c'.own g∨Ev.img c.ρ c.H g)
theorem To.refl(c:Cfg):To c c:=⟨List.prefix_rfl,Nat.le_refl _,rfl,rfl,rfl,fun _ _ h=>h,fun _ _ _=>rfl,fun _ cur _ fz h=>⟨cur,fz,h,rfl⟩,fun _ es n h=>⟨es,n,h⟩,fun _ o h _=>⟨o,h,rfl⟩,fun _ _=>⟨id,.inl⟩⟩
theorem To.trans{a b c:Cfg}(h:To a b)(k:To b c):To a c:=⟨h.pre.trans k.pre,Nat.le_trans h.size k.size,k.os.trans h.os,k.tape.trans h.tape,k.output.trans h.output,fun g hg hi=>h.img g hg (k.img g (Nat.lt_of_lt_of_le hg h.size) hi),fun g hg hn=>(k.same g (Nat.lt_of_lt_of_le hg h.size) (fun hi=>hn (h.img g hg hi))).trans (h.same g hg hn),fun g cur e fz hc=>let⟨c1,f1,h1,h2⟩:=h.shape g cur e fz hc;let⟨c2,f2,h3,h4⟩:=k.shape g c1 e f1 h1;⟨c2,f2,h3,h4.trans h2⟩,fun g es n hc=>let⟨es1,n1,h1⟩:=h.maps g es n hc;k.maps g es1 n1 h1,fun g o hc h0=>let⟨o1,h1,h2⟩:=h.kinds g o hc h0;let⟨o2,h3,h4⟩:=k.kinds g o1 h1 (by omega);⟨o2,h3,h4.trans h2⟩,fun g hg=>⟨fun hc=>(h.own g hg).1 ((k.own g (Nat.lt_of_lt_of_le hg h.size)).1 hc),fun ha=>((h.own g hg).2 ha).elim (fun hb=>((k.own g (Nat.lt_of_lt_of_le hg h.size)).2 hb).imp_right (h.img g hg)) .inr⟩⟩
theorem jP{ρ ρ':List Nat}(h:ρ<+:ρ'){b g:Nat}(hb:ρ[b]?=some g):ρ'[b]?=some g:=by obtain⟨t,rfl⟩:=h;grind
structure kB(ρ:List Nat)(own:Nat→Prop)(w:World)(ρ':List Nat)(own':Nat→Prop)(w':World):Prop where
 pre:ρ <+: ρ'
 size:w.heap.size≤w'.heap.size
 free:∀ g,g<w.heap.size→¬ own g→¬ own' g∧w'.heap[g]?=w.heap[g]?
 shape:∀(g:Nat) (cur:Array Value) (e:TypeId) (fz:Nat×Nat),w.heap[g]?=some (.cells cur e fz)→∃(cur':Array Value) (fz':Nat×Nat),w'.heap[g]?=some (.cells cur' e fz')∧cur'.size=cur.size
 maps:∀(g:Nat) es n,w.heap[g]?=some (.map es n)→∃ es' n',w'.heap[g]?=some (.map es' n')
 kinds:∀(g:Nat) o,w.heap[g]?=some o→jE o≠0→∃ o',w'.heap[g]?=some o'∧jE o'=jE o
theorem kB.shut{ρ ρ':List Nat}{own own':Nat->Prop}{w w':World}(k:kB ρ own w ρ' own' w'):kB [] own w [] own' w':=⟨List.prefix_rfl,k.size,k.free,k.shape,k.maps,k.kinds⟩
theorem kB.loop{ρ ρ':List Nat}{own own':Nat->Prop}{w w':World}(k:kB ρ own w ρ' own' w'){g:Nat}{r:Loop}(h:w.heap[g]?=some (.loop r)):∃r',w'.heap[g]?=some (.loop r'):=by obtain⟨o,h1,h2⟩:=k.kinds g _ h (by simp[jE]);obtain⟨r',rfl⟩:=zV h2;simp_all
theorem kB.iter{ρ ρ':List Nat}{own own':Nat->Prop}{w w':World}(k:kB ρ own w ρ' own' w'){g:Nat}{s:ByteArray}{p:Nat}(h:w.heap[g]?=some (.stringIter s p)):∃s' p',w'.heap[g]?=some (.stringIter s' p'):=by obtain⟨o,h1,h2⟩:=k.kinds g _ h (by simp[jE]);obtain⟨s',p',rfl⟩:=OV h2;simp_all
theorem To.loop{c c':Cfg}(k:To c c'){g:Nat}{r:Loop}(h:c.w.heap[g]?=some (.loop r)):∃r',c'.w.heap[g]?=some (.loop r'):=by obtain⟨o,h1,h2⟩:=k.kinds g _ h (by simp[jE]);obtain⟨r',rfl⟩:=zV h2;simp_all
theorem rK.keep{ρ ρ':List Nat}{own own':Nat->Prop}{w w':World}(k:kB ρ own w ρ' own' w'){g off:Nat}{xs:List Value}(hg:g<w.heap.size)(ho:¬own g)(h:rK w g off xs):rK w' g off xs:=fun i x hx=>(World.cell?_of_block (k.free g hg ho).2).trans (h i x hx)
mutual
theorem R.keep{ρ ρ':List Nat}{own own':Nat→Prop}{w w':World}(k:kB ρ own w ρ' own' w'):∀(a:A) (y:Value),R ρ own w a y→R ρ' own' w' a y
 |.v x,y,h=>by rw[R]at *;omega
 |.agg cs,y,h=>by
  rw[R]at *
  obtain⟨xs,h1,h2⟩:=h
  exact⟨xs,h1,RL.keep k cs xs h2⟩
 |.tup cs,y,h=>by
  rw[R]at *
  obtain⟨xs,h1,h2⟩:=h
  exact⟨xs,h1,RL.keep k cs xs h2⟩
 |.ptr b off,y,h=>by
  rw[R]at *
  obtain⟨g,h1,h2,cur,e,fz,h3⟩:=h
  obtain⟨cur',fz',h4,-⟩:=k.shape g cur e fz h3
  exact⟨g,jP k.pre h1,h2,cur',e,fz',h4⟩
 |.ref b off len sz,y,h=>by
  rw[R]at *
  obtain⟨g,cap,cur,e,fz,h1,h2,h3,h4,h5,h6⟩:=h
  obtain⟨cur',fz',h7,h8⟩:=k.shape g cur e fz h5
  exact⟨g,cap,cur',e,fz',jP k.pre h1,h2,h3,h4,h7,h8▸h6⟩
 |.sl len cs,y,h=>by
  rw[R]at *
  rcases h with h|⟨g,off,cap,xs,h1,h0,h2,h3,h4,h5⟩
  ·simp_all
  ·exact .inr ⟨g,off,cap,xs,h1,h0,Nat.lt_of_lt_of_le h2 k.size,(k.free g h2 h3).1,RL.keep k.shut cs xs h4,h5.keep k h2 h3⟩
 |.fp cs,y,h=>by
  rw[R]at *
  obtain⟨g,off,xs,h1,h2,h3,h4,h5⟩:=h
  exact⟨g,off,xs,h1,Nat.lt_of_lt_of_le h2 k.size,(k.free g h2 h3).1,RL.keep k.shut cs xs h4,h5.keep k h2 h3⟩
 |.mp b,y,h=>by
  rw[R]at *
  obtain⟨g,h1,h2,es,n,h3⟩:=h
  obtain⟨es',n',h4⟩:=k.maps g es n h3
  exact⟨g,jP k.pre h1,h2,es',n',h4⟩
 |.mf cs,y,h=>by
  rw[R]at *
  rcases h with h|⟨g,es,n,h1,h2,h3,h4,h5⟩
  ·simp_all
  ·exact .inr ⟨g,es,n,h1,Nat.lt_of_lt_of_le h2 k.size,(k.free g h2 h3).1,(k.free g h2 h3).2.trans h4,RL.keep k.shut cs _ h5⟩
 |.clo f fs caps,y,h=>by
  rw[R]at *
  obtain⟨xs,ys,h1,h2,h3⟩:=h
  exact⟨xs,ys,h1,RL.keep k fs xs h2,RL.keep k caps ys h3⟩
 |.yl b,y,h=>by
  rw[R]at *
  obtain⟨g,h1,h2,r,h3⟩:=h
  obtain⟨r',h4⟩:=k.loop h3
  exact⟨g,jP k.pre h1,h2,r',h4⟩
 |.lrec nt ps sl a b,y,h=>by
  rw[R]at h
  simp_all
 |.it b,y,h=>by
  rw[R]at *
  obtain⟨g,h1,h2,s,p,h3⟩:=h
  obtain⟨s',p',h4⟩:=k.iter h3
  exact⟨g,jP k.pre h1,h2,s',p',h4⟩
 |.its s p,y,h=>by
  rw[R]at h
  simp_all
theorem RL.keep{ρ ρ':List Nat}{own own':Nat→Prop}{w w':World}(k:kB ρ own w ρ' own' w'):∀(cs:List A) (ys:List Value),RL ρ own w cs ys→RL ρ' own' w' cs ys
 |[],ys,h=>by rw[RL]at *;omega
 |c::cs,ys,h=>by
  rw[RL]at *
  obtain⟨x,xs,h1,h2,h3⟩:=h
  exact⟨x,xs,h1,R.keep k c x h2,RL.keep k cs xs h3⟩
end
theorem To.keeps{c c':Cfg}(h:To c c')(ok:Ok Gd c):kB c.ρ c.own c.w c'.ρ c'.own c'.w:=⟨h.pre,h.size,fun g hg ho=>⟨fun ho'=>ho ((h.own g hg).1 ho'),h.same g hg fun hi=>ho (ok.img g hi)⟩,h.shape,h.maps,h.kinds⟩
theorem R.to{c c':Cfg}(h:To c c')(ok:Ok Gd c){a:A}{y:Value}(hr:R c.ρ c.own c.w a y):R c'.ρ c'.own c'.w a y:=R.keep (h.keeps ok) a y hr
theorem RL.to{c c':Cfg}(h:To c c')(ok:Ok Gd c){a:List A}{y:List Value}(hr:RL c.ρ c.own c.w a y):RL c'.ρ c'.own c'.w a y:=RL.keep (h.keeps ok) a y hr
theorem WQ.keep{ρ ρ':List Nat}{own own':Nat->Prop}{w w':World}(k:kB ρ own w ρ' own' w'){e:TypeId}{cs:List A}{wh:Bool}{g:Nat}(hs:w'.heap[g]?=w.heap[g]?)(h:WQ Gd ρ own w e cs wh g):WQ Gd ρ' own' w' e cs wh g:=by rcases h with⟨cur,xs,h1,h2,h3,h4⟩|⟨es,n,h1,h2,h3⟩|⟨r,nt,ps,sl,a,b,rest,h1,h2,h3,h4⟩|⟨s,p,h1,h2⟩;{exact .inl ⟨cur,xs,hs.trans h1,RL.keep k _ _ h2,h3,h4⟩};{exact .inr (.inl ⟨es,n,hs.trans h1,RL.keep k _ _ h2,h3⟩)};{exact .inr (.inr (.inl ⟨r,nt,ps,sl,a,b,rest,hs.trans h1,h2,h3,RL.keep k _ _ h4⟩))};{exact .inr (.inr (.inr ⟨s,p,hs.trans h1,h2⟩))}
theorem Ok.cells{c:Cfg}(ok:Ok Gd c){b:Nat}{e:TypeId}{cs:List A}{wh:Bool}{g:Nat}(hb:c.H[b]?=some (some ⟨e,cs,wh⟩))(hg:c.ρ[b]?=some g){cur0:Array Value}{e0:TypeId}{fz0:Nat×Nat}(hc:c.w.heap[g]?=some (.cells cur0 e0 fz0)):∃cur xs,c.w.heap[g]?=some (.cells cur e (0,0))/\RL c.ρ c.own c.w cs xs/\xs<+:cur.toList/\(wh=true->cur.size=cs.length):=by rcases ok.blk b e cs wh g hb hg with h|⟨es,n,h1,-⟩|⟨r,nt,ps,sl,a,b,rest,h1,-⟩|⟨s,p,h1,-⟩;{omega};{simp_all};{simp_all};simp_all
theorem Ok.lt_blk{c:Cfg}(ok:Ok Gd c){b:Nat}{k:Blk}{g:Nat}(hb:c.H[b]?=some (some k))(hg:c.ρ[b]?=some g):g<c.w.heap.size:=ok.lt g (ok.img g ⟨b,k,hb,hg⟩)
theorem Gl.keep{ρ ρ':List Nat}{own own':Nat->Prop}{w w':World}(k:kB ρ own w ρ' own' w')(h:Gl Gd own w):Gl Gd own' w':=by refine⟨fun g xs hg=>?_,fun g hg=>?_⟩;{obtain⟨h1,h2,h3,e,fz,h4⟩:=h.1 g xs hg;exact⟨(k.free g h2 h1).1,Nat.lt_of_lt_of_le h2 k.size,h3.keep k h2 h1,e,fz,(k.free g h2 h1).2.trans h4⟩};{obtain⟨h1,h2,t,p,h3⟩:=h.2 g hg;exact⟨(k.free g h2 h1).1,Nat.lt_of_lt_of_le h2 k.size,t,p,(World.cell?_of_block (k.free g h2 h1).2).trans h3⟩}
theorem To.glob{c c':Cfg}(h:To c c')(ok:Ok Gd c):Gl Gd c'.own c'.w:=ok.glob.keep (h.keeps ok)
theorem To.drew(c:Cfg):To c {c with w:=c.w.drew}:=⟨List.prefix_rfl,Nat.le_refl _,rfl,rfl,rfl,fun _ _ h=>h,fun _ _ _=>rfl,fun _ cur _ fz h=>⟨cur,fz,h,rfl⟩,fun _ es n h=>⟨es,n,h⟩,fun _ o h _=>⟨o,h,rfl⟩,fun _ _=>⟨id,.inl⟩⟩
inductive K where
 |bool
 |int (k:IntKind)
 |str
 |ptr (e:TypeId)
 |slice (e:TypeId)
 |array (n:Nat) (e:TypeId)
 |struct (fs:List (TypeId×Nat×Bool))
 |map (k e:TypeId)
 |func
 |other
structure Ty where
 k:K
 size:Nat
 bytes:Nat
 zero:List Value
 plain:Bool
structure Tb where
 ty:TypeId→Option Ty
 gl:GD
instance:CoeFun Tb fun _=>TypeId->Option Ty:=⟨Tb.ty⟩
def K.agg:K->Bool|.struct _|.array _ _=>true|_=>false
def kOf:TypeDesc->K|.bool=>.bool|.int k=>.int k|.string=>.str|.pointer e=>.ptr e|.slice e=>.slice e|.array n e=>.array n e|.struct fs=>.struct (fs.toList.map fun f=>(f.type,f.offset,f.name !="_"))|.map k e=>.map k e|.func _ _ _=>.func|_=>.other
def xR(k:K):Value->Option (List Value)|.agg cs=>if k.agg then some cs.toList else none|x=>if k.agg then none else some [x]
def qK(P:Program)(t:TypeId):Option Ty:=match P.info? t,P.underlying t with|some i,some d=>(match i.zero.bind (xR (kOf d))with|some z=>some ⟨kOf d,i.size,i.bytes,z,!P.eqGuardType P.depth t&&!P.stoodInHeld t⟩|none=>none)|_,_=>none
inductive E6 where
 |shut|pass|norm|trim
structure MFn where
 nt:Nat
 res:List ResultVar
 body:M
 mode:E6
inductive Tr(α:Type) where
 |nil
 |node (x:Option α) (l r:Tr α)
abbrev Env:=List (Nat×A)
def cV:Env->Nat->Option A|[],_=>none|(s,x)::l,t=>bif Nat.beq s t then some x else cV l t
def dT(e:Env):List Nat->Env|[]=>[]|s::l=>match cV e s with|some x=>(s,x)::dT e l|none=>dT e l
def put(e:Env)(d:Option Nat)(x:A):Env:=match d with|some d=>(d,x)::e|none=>e
def ofV:Value->A|.agg xs=>.agg (xs.toList.map .v)|x=>.v x
def opnd(e:Env):Operand->Option A|.tmp t=>cV e t|.const x=>some (ofV x)|.func f=>some (.v (.func (.func f) #[] #[]))|.global g=>some (.v (.pointer (some ⟨g,0,none⟩)))
def opnds(e:Env):List Operand->Option (List A)|[]=>some []|x::l=>match opnd e x,opnds e l with|some a,some as=>some (a::as)|_,_=>none
def gG:A->List A|.agg cs=>cs|.v (.agg xs)=>xs.toList.map .v|x=>[x]
def one:A->Bool|.v (.agg _)|.v (.tuple _)|.agg _|.tup _=>false|_=>true
def c9:List A->Bool|[]=>true|x::l=>one x&&c9 l
def yS(op:BinOp):Value->Value->Option Value|.int k a,.int k' b=>(match op with|.shl=>if b<0 then none else some (.int k (k.wrap (a*2^(min b.toNat k.bits))))|.shr=>if b<0 then none else some (.int k (a.fdiv (2^(min b.toNat k.bits))))|_=>if k=k' then match op with|.add=>some (.int k (k.wrap (a+b)))|.sub=>some (.int k (k.wrap (a-b)))|.mul=>some (.int k (k.wrap (a*b)))|.quo=>if b=0 then none else some (.int k (k.wrap (a.tdiv b)))|.rem=>if b=0 then none else some (.int k (a.tmod b))|.and=>some (.int k (k.wrap (BitVec.ofInt k.bits a&&&BitVec.ofInt k.bits b).toNat))|.or=>some (.int k (k.wrap (BitVec.ofInt k.bits a|||BitVec.ofInt k.bits b).toNat))|.xor=>some (.int k (k.wrap (BitVec.ofInt k.bits a^^^BitVec.ofInt k.bits b).toNat))|.andNot=>some (.int k (k.wrap (BitVec.ofInt k.bits a&&&~~~BitVec.ofInt k.bits b).toNat))|.eql=>some (.bool (a==b))|.neq=>some (.bool (a !=b))|.lss=>some (.bool (a<b))|.leq=>some (.bool (a<=b))|.gtr=>some (.bool (a>b))|.geq=>some (.bool (a>=b))|_=>none else none)|.string a,.string b=>(match op with|.add=>if((a.size+b.size:Nat):Int)>IntKind.i64.max then none else some (.string (a++b))|.eql=>some (.bool (a.toList==b.toList))|.neq=>some (.bool !(a.toList==b.toList))|.lss=>some (.bool (Op.bytesLess a.toList b.toList))|.leq=>some (.bool (Op.bytesLess a.toList b.toList||(a.toList==b.toList)))|.gtr=>some (.bool !(Op.bytesLess a.toList b.toList||(a.toList==b.toList)))|.geq=>some (.bool !(Op.bytesLess a.toList b.toList))|_=>none)|_,_=>none
def zZ(T:Tb)(eq:TypeId->List A->List A->Option Bool):List (TypeId×Nat×Bool)->List A->List A->Option Bool|[],_,_=>some true|(t,off,named)::fs,xs,ys=>match T t with|none=>none|some ty=>if named then if off+ty.size<=xs.length/\off+ty.size<=ys.length/\0<ty.size then match eq t ((xs.drop off).take ty.size) ((ys.drop off).take ty.size),zZ T eq fs xs ys with|some a,some b=>some (a&&b)|_,_=>none else none else zZ T eq fs xs ys
def eqN(eq:TypeId->List A->List A->Option Bool)(e:TypeId)(sz:Nat):Nat->Nat->List A->List A->Option Bool|0,_,_,_=>some true|n+1,i,xs,ys=>if i*sz+sz<=xs.length/\i*sz+sz<=ys.length/\0<sz then match eq e ((xs.drop (i*sz)).take sz) ((ys.drop (i*sz)).take sz),eqN eq e sz n (i+1) xs ys with|some a,some b=>some (a&&b)|_,_=>none else none
def eqT(T:Tb):Nat->TypeId->List A->List A->Option Bool|0,_,_,_=>none|d+1,t,xs,ys=>match T t with|none=>none|some ty=>match ty.k with|.bool=>(match xs,ys with|[.v (.bool a)],[.v (.bool b)]=>some (a==b)|_,_=>none)|.int _=>(match xs,ys with|[.v (.int k a)],[.v (.int k' b)]=>if k=k' then some (a==b)else none|_,_=>none)|.str=>(match xs,ys with|[.v (.string a)],[.v (.string b)]=>some (a==b)|_,_=>none)|.struct fs=>if ty.plain then zZ T (eqT T d) fs xs ys else none|.array n e=>(match T e with|some te=>eqN (eqT T d) e te.size n 0 xs ys|none=>none)|_=>none
def t9:K->A->A->Option Bool|.slice _,a,b=>(match a,b with|.ref _ _ _ _,.v (.slice none _ _)=>some false|.v (.slice none _ _),.ref _ _ _ _=>some false|.sl (_+1) _,.v (.slice none _ _)=>some false|.v (.slice none _ _),.sl (_+1) _=>some false|.v (.slice none _ _),.v (.slice none _ _)=>some true|.v (.slice (some _) _ _),.v (.slice none _ _)=>some false|_,_=>none)|.ptr _,a,b=>(match a,b with|.ptr _ _,.v (.pointer none)=>some false|.v (.pointer none),.ptr _ _=>some false|.fp _,.v (.pointer none)=>some false|.v (.pointer none),.fp _=>some false|.v (.pointer none),.v (.pointer none)=>some true|_,_=>none)|.func,a,b=>(match a,b with|.clo _ _ _,.v .nilFunc=>some false|.v .nilFunc,.clo _ _ _=>some false|.v (.func _ _ _),.v .nilFunc=>some false|.v .nilFunc,.v (.func _ _ _)=>some false|.v .nilFunc,.v .nilFunc=>some true|_,_=>none)|_,_,_=>none
def yG(T:Tb)(t:TypeId)(ty:Ty)(a b:A):Option Bool:=match t9 ty.k a b with|some r=>some r|none=>match a,b with|.agg xs,.agg ys=>if ty.k.agg&&ty.plain then eqT T 20 t xs ys else none|.v (.bool x),.v (.bool y)=>(match ty.k with|.bool=>some (x==y)|_=>none)|_,_=>none
def U2(T:Tb)(op:BinOp)(t:TypeId)(a b:A):Option A:=match T t with|none=>none|some ty=>match op,yG T t ty a b with|.eql,some r=>some (.v (.bool r))|.neq,some r=>some (.v (.bool !r))|_,_=>none
def sO(ty:Ty)(cs:List A)(off:Nat):Option A:=if off+ty.size<=cs.length then if ty.k.agg then some (.agg ((cs.drop off).take ty.size))else if ty.size=1 then cs[off]? else none else none
def bV(f:A->Option A):List A->Option (List A)|[]=>some []|c::cs=>match f c,bV f cs with|some x,some xs=>some (x::xs)|_,_=>none
def freeze(H:aF):Nat->A->Option A|0,_=>none|n+1,a=>match a with|.v x=>some (.v x)|.agg cs=>(bV (freeze H n) cs).map .agg|.tup cs=>(bV (freeze H n) cs).map .tup|.clo f fs caps=>(match bV (freeze H n) fs,bV (freeze H n) caps with|some xs,some ys=>some (.clo f xs ys)|_,_=>none)|.yl _=>none|.lrec _ _ _ _ _=>none|.it _=>none|.its _ _=>none|.sl len cs=>some (.sl len cs)|.fp cs=>some (.fp cs)|.mf cs=>some (.mf cs)|.mp b=>(match H[b]? with|some (some k)=>(bV (freeze H n) k.cs).map .mf|_=>none)|.ptr b off=>(match H[b]? with|some (some k)=>(bV (freeze H n) (k.cs.drop off)).map .fp|_=>none)|.ref b off len sz=>match H[b]? with|some (some k)=>if off+len*sz<=k.cs.length then(bV (freeze H n) ((k.cs.drop off).take (len*sz))).map (.sl len)else none|_=>none
mutual
def nrm:A→A
 |.v x=>match x with
  |.slice none 0 0=>.sl 0 []
  |x=>.v x
 |.agg l=>.agg (iE l)
 |.tup l=>.tup (iE l)
 |.sl n l=>.sl n (iE l)
 |.fp l=>.fp (iE l)
 |.mf l=>.mf (iE l)
 |.clo f l r=>.clo f (iE l) (iE r)
 |.yl b=>.yl b
 |.lrec nt ps sl a b=>.lrec nt ps sl a b
 |.it b=>.it b
 |.its s p=>.its s p
 |.ptr b o=>.ptr b o
 |.ref b o n z=>.ref b o n z
 |.mp b=>.mp b
def iE:List A→List A
 |[]=>[]
 |x::l=>nrm x::iE l
end
def qC(md:E6)(H:aF)(a:A):Option A:=match md with|.norm=>(freeze H 20 a).map nrm|_=>freeze H 20 a
def shut:A->Bool|.v _|.sl _ _|.fp _|.mf _=>true|.agg cs|.tup cs=>shutL cs|.clo _ fs caps=>shutL fs&&shutL caps|.ptr _ _|.ref _ _ _ _|.mp _|.yl _|.lrec _ _ _ _ _|.it _|.its _ _=>false where shutL:List A->Bool|[]=>true|c::cs=>shut c&&shutL cs
def iP:A->Bool|.v _=>true|.agg cs|.tup cs=>flatL cs|.clo _ fs caps=>flatL fs&&flatL caps|.sl n cs=>Nat.beq n 0&&cs.isEmpty|_=>false where flatL:List A->Bool|[]=>true|c::cs=>iP c&&flatL cs
def dZ(H:aF):List A->Option (List A)|[]=>some []|a::l=>match freeze H 20 a,dZ H l with|some x,some xs=>some (x::xs)|_,_=>none
def nP(G:Nat->Option (List Value))(H:aF):A->Option (List A)|.v (.pointer (some ⟨g,off,none⟩))=>(match G g with|some xs=>some ((xs.drop off).map .v)|none=>none)|.ptr b off=>(match H[b]? with|some (some k)=>some (k.cs.drop off)|_=>none)|.fp cs=>some cs|_=>none
def nX(place:Nat->Option (Nat×Nat))(cs:List A):List (Nat×A)->Option (List A)|[]=>some cs|(i,x)::rest=>match place i with|none=>none|some (off,size)=>if(gG x).length=size/\off+size<=cs.length then nX place (cs.take off++gG x++cs.drop (off+size)) rest else none
def mW(T:Tb):List (TypeId×Nat×Bool)->Option (List (Nat×Nat))|[]=>some []|(t,off,_)::fs=>match T t,mW T fs with|some ty,some l=>some ((off,ty.size)::l)|_,_=>none
def nE(e:Env):List (Nat×Operand)->Option (List (Nat×A))|[]=>some []|(i,x)::l=>match opnd e x,nE e l with|some a,some as=>some ((i,a)::as)|_,_=>none
def iX(z:List Value):Nat->List A|0=>[]|n+1=>z.map .v++iX z n
def bnd(len:Nat):Option A->Nat->Option Nat|none,d=>some d|some (.v (.int _ i)),_=>if 0<=i/\i<=len then some i.toNat else none|some _,_=>none
def GV(len:Nat)(lo hi:Option A):Option (Nat×Nat):=match bnd len hi len with|none=>none|some h=>match bnd h lo 0 with|some l=>some (l,h)|none=>none
def mG(e:Env):Option Operand->Option (Option A)|none=>some none|some x=>(opnd e x).map some
abbrev eK:=FuncId->List A->Option A
inductive Tgt where
 |fn (f:FuncId)
 |yl (b:Nat)
abbrev Orc:=Tgt->List A->aF->Option (A×aF)
def callee:A->Option (Tgt×List A×List A)|.v (.func (.func f) fs caps)=>if fs.isEmpty&&caps.isEmpty then some (.fn f,[],[])else none|.clo f fs caps=>some (.fn f,fs,caps)|.yl b=>some (.yl b,[],[])|_=>none
def fT:K->Value->Bool|.bool,.bool _=>true|.int k,.int k' _=>decide (k'=k)|.str,.string _=>true|_,_=>false
def gK:Value->Value->Bool|.bool a,.bool b=>a==b|.int _ a,.int _ b=>a==b|.string a,.string b=>a==b|_,_=>false
def lA(kd:K)(key:Value):List A->Nat->Option (Option (Nat×A))|[],_=>some none|.v x::a::l,i=>if fT kd x then(if gK key x then some (some (i,a))else lA kd key l (i+1))else none|_,_=>none
def d9(H:aF):A->Option (List A)|.mf cs=>some cs|.v (.map none)=>some []|.mp b=>(match H[b]? with|some (some k)=>some k.cs|_=>none)|_=>none
def C9(ty:Ty):Option A:=if ty.k.agg then some (.agg (ty.zero.map .v))else match ty.zero with|[z]=>some (.v z)|_=>none
def oX(k:IntKind):List Value->Bool|[]=>true|.int k' _::l=>decide (k'=k)&&oX k l|_=>false
def lV(T:Tb)(tk:Ty)(x:Value):Bool:=fT tk.k x||match tk.k,x with|.array n el,.agg xs=>(match T el with|some te=>(match te.k with|.int k=>Nat.beq te.size 1&&(Nat.beq xs.size n&&oX k xs.toList)|_=>false)|none=>false)|_,_=>false
def uX:List A->Option (List Value)|[]=>some []|.v x::l=>(uX l).map fun r=>x::r|_=>none
def U1:A->Option Value|.v x=>some x|.agg cs=>(uX cs).map fun r=>.agg r.toArray|_=>none
def uR(T:Tb)(kt:TypeId)(xs:List A):List A->Nat->Option (Option (Nat×A))|[],_=>some none|.v (.agg ys)::a::l,i=>(match eqT T 20 kt xs (ys.toList.map .v)with|some true=>some (some (i,a))|some false=>uR T kt xs l (i+1)|none=>none)|_,_=>none
def KX(T:Tb)(kt:TypeId)(tk:Ty)(key:Value)(cs:List A):Option (Option (Nat×A)):=bif fT tk.k key then lA tk.k key cs 0 else bif lV T tk key then match key with|.agg xs=>uR T kt (xs.toList.map .v) cs 0|_=>none else none
def bytesOf:List A->Option (List UInt8)|[]=>some []|.v (.int .u8 x)::l=>if 0<=x/\x<256 then(bytesOf l).map fun r=>UInt8.ofNat x.toNat::r else none|_=>none
def J6(T:Tb)(H:aF)(k k':K)(b off len sz:Nat):Option A:=match k,k',H[b]? with|.slice el,.str,some (some blk)=>(match T el,bytesOf ((blk.cs.drop off).take len)with|some te,some l=>(match te.k with|.int .u8=>if sz=1/\l.length=len then some (.v (.string ⟨l.toArray⟩))else none|_=>none)|_,_=>none)|_,_,_=>none
def aL(T:Tb)(e:Env)(H:aF):Op->Option A|.move x|.assign x=>opnd e x|.pick c a b=>(match opnd e c,opnd e a,opnd e b with|some (.v (.bool t)),some x,some y=>some (bif t then x else y)|some (.v (.bool true)),some x,none=>some x|some (.v (.bool false)),none,some y=>some y|_,_,_=>none)|.load t x=>(match(opnd e x).bind (nP T.gl.tab H),T t with|some cs,some ty=>sO ty cs 0|_,_=>none)|.nilCheck x=>(match opnd e x with|some (.ptr b o)=>some (.ptr b o)|some (.fp cs)=>some (.fp cs)|some (.v (.pointer (some a)))=>some (.v (.pointer (some a)))|some (.clo f a b)=>some (.clo f a b)|some (.v (.func (.func f) a b))=>some (.v (.func (.func f) a b))|_=>none)|.binOp op t x y _=>(match opnd e x,opnd e y with|some (.v a),some (.v b)=>(match yS op a b with|some r=>some (.v r)|none=>U2 T op t (.v a) (.v b))|some a,some b=>U2 T op t a b|_,_=>none)|.unOp op _ x=>(match op,opnd e x with|.neg,some (.v (.int k n))=>some (.v (.int k (k.wrap (0-n))))|.xor,some (.v (.int k n))=>some (.v (.int k (k.wrap (BitVec.ofInt k.bits (if k.signed then-1 else k.max)^^^BitVec.ofInt k.bits n).toNat)))|.not,some (.v (.bool b))=>some (.v (.bool !b))|_,_=>none)|.convert src dst x=>(match T src,T dst,opnd e x with|some _,some ty,some (.v (.int _ n))=>(match ty.k with|.int k=>some (.v (.int k (k.wrap n)))|_=>none)|some _,some ty,some (.v (.string s))=>(match ty.k with|.str=>some (.v (.string s))|_=>none)|some sty,some ty,some (.ref b off len sz)=>bif Nat.beq dst 9 then J6 T H sty.k ty.k b off len sz else none|_,_,_=>none)|.build t parts=>(match T t,nE e parts.toList with|some ty,some ps=>(match ty.k with|.struct fs=>(match mW T fs with|some l=>(nX (fun i=>l[i]?) (ty.zero.map .v) ps).map .agg|none=>none)|.array _ el=>(match T el with|some te=>(nX (fun i=>some (i*te.size,te.size)) (ty.zero.map .v) ps).map .agg|none=>none)|_=>none)|_,_=>none)|.fieldAddr t x f=>(match T t,opnd e x with|some ty,some a=>(match ty.k with|.struct fs=>(match fs[f]? with|some (ft,off,_)=>(match T ft with|some fty=>if 0<fty.size then match a with|.ptr b o=>some (.ptr b (o+off))|.fp cs=>some (.fp (cs.drop off))|_=>none else none|none=>none)|none=>none)|_=>none)|_,_=>none)|.field t x f=>(match T t,opnd e x with|some ty,some (.agg cs)=>(match ty.k with|.struct fs=>(match fs[f]? with|some (ft,off,_)=>(match T ft with|some fty=>sO fty cs off|none=>none)|none=>none)|_=>none)|_,_=>none)|.indexAddr t x i=>(match T t,opnd e x,opnd e i with|some ty,some a,some (.v (.int _ n))=>(match ty.k with|.slice el=>(match T el with|some te=>(match a with|.ref b off len sz=>if 0<=n/\n<len/\sz=te.size then some (.ptr b (off+n.toNat*te.size))else none|.sl len cs=>if 0<=n/\n<len then some (.fp (cs.drop (n.toNat*te.size)))else none|_=>none)|none=>none)|.array len el=>(match T el with|some te=>if 0<=n/\n<len then match a with|.ptr b off=>some (.ptr b (off+n.toNat*te.size))|.v (.pointer (some ⟨g,off,none⟩))=>some (.v (.pointer (some ⟨g,off+n.toNat*te.size,none⟩)))|.fp cs=>some (.fp (cs.drop (n.toNat*te.size)))|_=>none else none|none=>none)|_=>none)|_,_,_=>none)|.index t x i=>(match T t,opnd e x,opnd e i with|some ty,some a,some (.v (.int _ n))=>(match ty.k with|.array len el=>(match T el,a with|some te,.agg cs=>if 0<=n/\n<len then sO te cs (n.toNat*te.size)else none|_,_=>none)|.str=>(match a with|.v (.string s)=>if 0<=n then(s[n.toNat]?).map fun b=>.v (.int .u8 b.toNat)else none|_=>none)|_=>none)|_,_,_=>none)|.slice t x lo hi mx=>(match mx,T t,opnd e x,mG e lo,mG e hi with|none,some ty,some a,some l,some h=>(match ty.k with|.str=>(match a with|.v (.string s)=>(match GV s.size l h with|some (i,j)=>some (.v (.string (s.extract i j)))|none=>none)|_=>none)|.slice el=>(match T el with|some te=>(match a with|.ref b off len sz=>(match GV len l h with|some (i,j)=>if sz=te.size then if i<len then some (.ref b (off+i*sz) (j-i) sz)else some (.sl 0 [])else none|none=>none)|.sl len cs=>(match GV len l h with|some (i,j)=>if cs.length=len*te.size then some (.sl (j-i) ((cs.drop (i*te.size)).take ((j-i)*te.size)))else none|none=>none)|.v (.slice none 0 0)=>(match GV 0 l h with|some _=>some (.v (.slice none 0 0))|none=>none)|_=>none)|none=>none)|.array n el=>(match T el,GV n l h with|some te,some (i,j)=>(match a with|.fp cs=>if n*te.size<=cs.length then some (.sl (j-i) ((cs.drop (i*te.size)).take ((j-i)*te.size)))else none|.ptr b off=>(match H[b]? with|some (some k)=>if k.whole&&Nat.ble (off+n*te.size) k.cs.length&&Nat.ble n maxLen then if i<n then some (.ref b (off+i*te.size) (j-i) te.size)else some (.sl 0 [])else none|_=>none)|_=>none)|_,_=>none)|_=>none)|_,_,_,_,_=>none)|.extract x i=>(match opnd e x with|some (.tup cs)=>cs[i]?|some (.v (.tuple xs))=>(xs[i]?).map ofV|_=>none)|.lookup t m k ok=>(match T t,opnd e m,(opnd e k).bind U1 with|some ty,some mv,some key=>(match ty.k with|.map kt et=>(match T kt,T et,d9 H mv with|some tk,some te,some es=>(match KX T kt tk key es with|some (some (_,a))=>some (if ok then .tup [a,.v (.bool true)]else a)|some none=>(match C9 te with|some z=>some (if ok then .tup [z,.v (.bool false)]else z)|none=>none)|none=>none)|_,_,_=>none)|_=>none)|_,_,_=>none)|.makeFunc fn first caps=>(match fn,opnds e first.toList,opnds e caps.toList with|.func f,some xs,some ys=>some (.clo f xs ys)|_,_,_=>none)|.call c=>(match c.callee with|.builtin .len=>(match opnds e c.args.toList,(c.argTypes[0]?).bind T.ty with|some [a],some ty=>(match ty.k with|.str=>(match a with|.v (.string s)=>some (.v (.int .i64 s.size))|_=>none)|.array n _=>some (.v (.int .i64 n))|.slice _=>(match a with|.ref _ _ len _=>some (.v (.int .i64 len))|.sl len _=>some (.v (.int .i64 len))|.v (.slice none n _)=>some (.v (.int .i64 n))|_=>none)|_=>none)|_,_=>none)|.builtin .min=>(match opnds e c.args.toList with|some (x::l)=>minA false x l|_=>none)|.builtin .cap=>(match opnds e c.args.toList,(c.argTypes[0]?).bind T.ty with|some [.v (.slice none _ n)],some ty=>(match ty.k with|.slice _=>some (.v (.int .i64 n))|_=>none)|_,_=>none)|.builtin .unsafeSliceData=>(match opnds e c.args.toList with|some [.v (.slice none _ _)]=>some (.v (.pointer none))|some [.ref b off (_+1) _]=>some (.ptr b off)|_=>none)|.builtin .max=>(match opnds e c.args.toList with|some (x::l)=>minA true x l|_=>none)|_=>none)|_=>none where minA (mx:Bool) (x:A):List A->Option A|[]=>some x|y::l=>match x,y with|.v (.int k a),.v (.int _ b)=>minA mx (.v (.int k (bif mx then(if b>a then b else a)else(if b<a then b else a)))) l|_,_=>none
def calls(e:Env):Op->Option (Tgt×List A)|.call c=>(match c.callee with|.value f=>(match(opnd e f).bind callee,opnds e c.args.toList with|some (g,fs,caps),some as=>some (g,fs++as++caps)|_,_=>none)|_=>none)|_=>none
def jL(T:Tb)(e:Env)(t:TypeId)(len:Nat)(parts:Array (Nat×Operand)):Option (TypeId×Nat×List A):=match T t with|some ty=>(match ty.k with|.slice el=>(match T el,nE e parts.toList with|some te,some ps=>if len*te.size<=2^24/\0<te.size/\len<=maxLen/\te.zero.length=te.size then(nX (fun i=>some (i*te.size,te.size)) (iX te.zero len) ps).map fun cs=>(el,te.size,cs)else none|_,_=>none)|_=>none)|none=>none
def iY(T:Tb)(e:Env)(H:aF)(t:TypeId)(m k v:Operand):Option (A×aF):=match T t,opnd e m,opnd e k,opnd e v with|some ty,some (.mp b),some (.v key),some a=>(match ty.k,H[b]? with|.map kt _,some (some blk)=>(match T kt with|some tk=>if fT tk.k key then match lA tk.k key blk.cs 0 with|some none=>some (.v undef,H.set b (some ⟨blk.e,blk.cs++[.v key,a],blk.whole⟩))|some (some (i,_))=>some (.v undef,H.set b (some ⟨blk.e,blk.cs.set (2*i+1) a,blk.whole⟩))|none=>none else none|none=>none)|_,_=>none)|_,_,_,_=>none
def oG:List Value->List Value->Bool|[],[]=>true|.int k a::l,.int k' b::l'=>decide (k=k')&&(decide (a=b)&&oG l l')|_,_=>false
def sG(key:Value):Option A->Bool|some (.v (.agg ys))=>(match key with|.agg xs=>oG ys.toList xs.toList|_=>false)|_=>false
def lD(T:Tb)(e:Env)(H:aF)(t:TypeId)(m k:Operand):Option (A×aF):=match T t,opnd e m,(opnd e k).bind U1 with|some ty,some (.mp b),some key=>(match ty.k,H[b]? with|.map kt et,some (some blk)=>(match T kt,(T et).bind C9 with|some tk,some z=>(match KX T kt tk key blk.cs with|some none=>some (.tup [z,.v (.int .i64 (blk.cs.length/2:Nat))],H.set b (some ⟨blk.e,blk.cs++[.v key,z],blk.whole⟩))|some (some (i,a))=>bif fT tk.k key||sG key blk.cs[2*i]? then some (.tup [a,.v (.int .i64 i)],H.set b (some blk))else none|none=>none)|_,_=>none)|_,_=>none)|_,_,_=>none
def lN(e:Env)(H:aF)(m s x:Operand):Option (A×aF):=match opnd e m,opnd e s,opnd e x with|some (.mp b),some (.v (.int _ i)),some a=>(match H[b]? with|some (some blk)=>if 0<=i/\2*i.toNat+1<blk.cs.length then some (.v undef,H.set b (some ⟨blk.e,blk.cs.set (2*i.toNat+1) a,blk.whole⟩))else none|_=>none)|_,_,_=>none
def EB(l:List UInt8):List A:=l.map fun b=>.v (.int .u8 b.toNat)
def aAx(T:Tb)(H:aF)(pt:TypeId)(p:A)(n:Int):Option (A×aF):=match p with|.v (.pointer none)=>if n=0 then some (.v (.string .empty),H)else none|.ptr b 0=>(match T pt,H[b]? with|some ty,some (some k)=>(match ty.k with|.ptr el=>(match T el,bytesOf (k.cs.take n.toNat)with|some te,some l=>if te.size=1/\k.e=el/\0<n/\l.length=n.toNat/\l.length<=maxLen then some (.v (.string ⟨l.toArray⟩),H.set b none)else none|_,_=>none)|_=>none)|_,_=>none)|_=>none
def aCP(e:Env)(H:aF)(x:Operand):Option (A×aF):=match opnd e x with|some (.it b)=>(match H[b]? with|some (some k)=>(match k.cs with|[.its s p]=>(match s[p]? with|some u=>bif Nat.blt u.toNat 128 then some (.tup [.v (.bool true),.v (.int .i64 p),.v (.int .i32 u.toNat)],H.set b (some ⟨0,[.its s (p+1)],true⟩))else none|none=>some (.tup [.v (.bool false)],H))|_=>none)|_=>none)|_=>none
def aO(T:Tb)(e:Env)(H:aF):Op→Option (A×aF)
 |.alloc t=>match T t with
  |some ty=>some (.ptr H.length 0,H++[some ⟨t,ty.zero.map .v,true⟩])
  |none=>none
 |.range t x=>match T t,opnd e x with
  |some ty,some (.v (.string s))=>match ty.k with
   |.str=>some (.it H.length,H++[some ⟨0,[.its s 0],true⟩])
   |_=>none
  |_,_=>none
 |.next x str=>bif str then aCP e H x else none
 |.insert t m k v=>iY T e H t m k v
 |.mapUpdate t m k v=>iY T e H t m k v
 |.mapEntry t m k=>lD T e H t m k
 |.entryStore _ m s x=>lN e H m s x
 |.makeMap t none=>match T t with
  |some ty=>match ty.k with
   |.map _ _=>some (.mp H.length,H++[some ⟨t,[],true⟩])
   |_=>none
  |none=>none
 |.box t x=>match opnd e x with
  |some a=>if c9 (gG a)then some (.ptr H.length 0,H++[some ⟨t,gG a,true⟩])else none
  |none=>none
 |.buildSlice t len parts=>match jL T e t len parts with
  |some (el,sz,cs)=>if c9 cs then some (.ref H.length 0 len sz,H++[some ⟨el,cs,true⟩])else none
  |none=>none
 |.store t p x=>match opnd e p,opnd e x,T t with
  |some (.ptr b off),some a,some ty=>match H[b]? with
   |some (some k) =>
    if(gG a).length=ty.size∧off+ty.size≤k.cs.length∧c9 (gG a)then some (.v undef,H.set b (some ⟨k.e,k.cs.take off++gG a++k.cs.drop (off+ty.size),k.whole⟩))else none
   |_=>none
  |_,_,_=>none
 |.makeSlice t l c=>match T t,opnd e l,opnd e c with
  |some ty,some (.v (.int _ n)),some (.v (.int _ m))=>match ty.k with
   |.slice el=>match T el with
    |some te=>if 0≤n∧n≤m∧m*te.bytes≤2 ^ 47∧m≤(maxLen:Int)∧0<te.size∧te.zero.length=te.size then some (.ref H.length 0 n.toNat te.size,H++[some ⟨el,iX te.zero m.toNat,true⟩])else none
    |none=>none
   |_=>none
  |_,_,_=>none
 |.call c=>match c.callee with
  |.builtin .append=>match opnds e c.args.toList,c.argTypes.toList with
   |some [s,x],[t,t']=>match T t with
    |some ty=>match ty.k with
     |.slice el=>match T el with
      |some te=>match srcT H te t t' x with
       |some (m,news)=>if news.length=m*te.size∧te.zero.length=te.size∧c9 news then
        match s with
        |.v (.slice none 0 0) =>
         if m=0 then some (s,H)
         else if m≤maxLen∧m*te.bytes≤2 ^ 47 then some (.ref H.length 0 m te.size,H++[some ⟨el,news,false⟩])else none
        |.ref b 0 n sz=>match H[b]? with
         |some (some k) =>
          if sz=te.size∧k.e=el∧n*sz≤k.cs.length∧n+m≤maxLen∧(n+m)*te.bytes≤2 ^ 47 then
           some (.ref H.length 0 (n+m) sz,H.set b none++[some ⟨el,k.cs.take (n*sz)++news,false⟩])
          else none
         |_=>none
        |_=>none
        else none
       |none=>none
      |none=>none
     |_=>none
    |none=>none
   |_,_=>none
  |.builtin .unsafeString=>match opnds e c.args.toList,c.argTypes[0]? with
   |some [p,.v (.int .i64 n)],some pt=>aAx T H pt p n
   |_,_=>none
  |.builtin .copy=>match opnds e c.args.toList,(c.argTypes[0]?).bind T.ty with
   |some [d,x],some ty=>match ty.k with
    |.slice el=>match T el with
     |some te=>match srcL H te.size x with
      |some (m,news)=>match d with
       |.ref b off n sz=>match H[b]? with
        |some (some k) =>
         let j:=min m n
         let new:=news.take (j*sz)
         if sz=te.size∧news.length=m*te.size∧off+j*sz≤k.cs.length∧c9 new then
          some (.v (.int .i64 j),H.set b (some ⟨k.e,k.cs.take off++new++k.cs.drop (off+j*sz),k.whole⟩))
         else none
        |_=>none
       |.v (.slice none 0 0)=>some (.v (.int .i64 0),H)
       |.sl 0 _=>some (.v (.int .i64 0),H)
       |_=>none
      |none=>none
     |none=>none
    |_=>none
   |_,_=>none
  |_=>none
 |_=>none
where
 srcT (H:aF) (te:Ty) (t t':TypeId) (x:A):Option (Nat×List A) :=
  bif Nat.beq t t' then srcL H te.size x
  else match T t' with
   |some ty=>match ty.k,x with
    |.str,.v (.string s)=>bif Nat.beq te.size 1 then some (s.size,EB s.data.toList)else none
    |.int _,.v (.int .i64 l)=>if 0≤l∧l≤maxLen∧0<te.size∧te.zero.length=te.size then some (l.toNat,iX te.zero l.toNat)else none
    |_,_=>none
   |none=>none
 srcL (H:aF) (sz:Nat):A→Option (Nat×List A)
  |.sl n cs=>some (n,cs)
  |.v (.slice none 0 0)=>some (0,[])
  |.v (.slice (some _) 0 _)=>some (0,[])
  |.ref b off n s=>match H[b]? with
   |some (some k)=>if s=sz∧off+n*s≤k.cs.length then some (n,(k.cs.drop off).take (n*s))else none
   |_=>none
  |_=>none
structure St where
 env:Env
 H:aF
def wants(e:Env):Option (Nat×Bool)->Option Bool|none=>some true|some (t,b)=>match cV e t with|some (.v (.bool x))=>some (x==b)|some (.v (.tuple _))=>some false|_=>none
def eN(T:Tb)(q:eK)(st:St)(op:Op):Option A:=match calls st.env op with|some (.fn f,as)=>(match dZ st.H as with|some as'=>(match q f as' with|some r=>if(as.all shut)||iP r then some r else none|none=>none)|none=>none)|some (.yl _,_)=>none|none=>match op with|.buildSlice t len parts=>(match jL T st.env t len parts with|some (_,_,cs)=>if(shut.shutL cs)&&c9 cs then some (.sl len cs)else none|none=>none)|_=>aL T st.env st.H op
def fF(T:Tb)(o:Orc)(st:St)(op:Op):Option (A×aF):=match calls st.env op with|some (f,as)=>o f as st.H|none=>match aO T st.env st.H op with|some r=>some r|none=>(aL T st.env st.H op).map fun a=>(a,st.H)
def bE(T:Tb)(q:eK)(o:Orc):Nat->List MOp->St->Option St|_,[],st=>some st|n,m::ms,st=>match wants st.env m.guard with|none=>none|some false=>bE T q o (n-1) ms ⟨put st.env m.dst (.v undef),st.H⟩|some true=>match n with|n+1=>(match eN T q st m.op with|some a=>bE T q o n ms ⟨put st.env m.dst a,st.H⟩|none=>none)|0=>match fF T o st m.op with|some (a,H')=>bE T q o 0 ms ⟨put st.env m.dst a,H'⟩|none=>none
def eqV:Value->Value->Bool|.int k a,.int k' b=>decide (k=k')&&decide (a=b)|.bool a,.bool b=>a==b|.string a,.string b=>a==b|.slice none a b,.slice none c d=>Nat.beq a c&&Nat.beq b d|.slice (some p) a b,.slice (some q) c d=>decide (p=q)&&(Nat.beq a c&&Nat.beq b d)|.pointer none,.pointer none=>true|.pointer (some a),.pointer (some b)=>decide (a=b)|.map none,.map none=>true|.nilFunc,.nilFunc=>true|.nilIface,.nilIface=>true|.func (.func f) a b,.func (.func g) c d=>Nat.beq f g&&(a.isEmpty&&b.isEmpty&&c.isEmpty&&d.isEmpty)|_,_=>false
mutual
def eqA:A→A→Bool
 |.v x,b=>match b with
  |.v y=>eqV x y
  |_=>false
 |.agg l,b=>match b with
  |.agg r=>eqL l r
  |_=>false
 |.tup l,b=>match b with
  |.tup r=>eqL l r
  |_=>false
 |.ptr i o,b=>match b with
  |.ptr j p=>Nat.beq i j&&Nat.beq o p
  |_=>false
 |.ref i o n z,b=>match b with
  |.ref j p m y=>Nat.beq i j&&Nat.beq o p&&Nat.beq n m&&Nat.beq z y
  |_=>false
 |.sl n l,b=>match b with
  |.sl m r=>Nat.beq n m&&eqL l r
  |_=>false
 |.fp l,b=>match b with
  |.fp r=>eqL l r
  |_=>false
 |.mp i,b=>match b with
  |.mp j=>Nat.beq i j
  |_=>false
 |.mf l,b=>match b with
  |.mf r=>eqL l r
  |_=>false
 |.clo f l r,b=>match b with
  |.clo g l' r'=>Nat.beq f g&&eqL l l'&&eqL r r'
  |_=>false
 |.yl _,_=>false
 |.lrec _ _ _ _ _,_=>false
 |.it _,_=>false
 |.its _ _,_=>false
def eqL:List A→List A→Bool
 |[],b=>b.isEmpty
 |x::l,b=>match b with
  |y::r=>eqA x y&&eqL l r
  |[]=>false
end
def nT(T:Tb)(st:St)(m:MOp):Bool:=match wants st.env m.guard with|none=>false|some false=>true|some true=>match calls st.env m.op with|some (.fn _,l)=>l.all shut|some (.yl _,_)=>false|none=>match m.op with|.buildSlice _ _ _=>true|_=>match m.dst with|none=>false|some d=>match aL T st.env st.H m.op,cV st.env d with|some y,some x=>eqA y x|_,_=>false
def againAll(T:Tb)(st:St):List MOp->Bool|[]=>true|m::ms=>nT T st m&&againAll T st ms
inductive Ex where
 |go
 |out (id:Nat)
 |back
def exOfN:Nat->Ex|0=>.go|1=>.back|n+2=>.out n
def IG:Ex->Nat|.go=>0|.back=>1|.out n=>n+2
structure fD where
 nt:Nat
 ps:List Nat
 sl:List Nat
 a:M
 b:M
 s:Int
 p:Int
 vs:List A
def bA(H:aF)(b:Nat):Option fD:=match H[b]? with|some (some k)=>(match k.cs with|.lrec nt ps sl a bd::.v (.int .i64 s)::.v (.int .i64 p)::vs=>some ⟨nt,ps,sl,a,bd,s,p,vs⟩|_=>none)|_=>none
def fD.blk(r:fD)(s p:Int):Blk:=⟨0,.lrec r.nt r.ps r.sl r.a r.b::.v (.int .i64 s)::.v (.int .i64 p)::r.vs,true⟩
def pending(H:aF)(b:Nat):Option Ex:=match bA H b with|some r=>if r.s=1 then none else if 0<=r.p then some (exOfN r.p.toNat)else none|none=>none
def fC(nt:Nat)(ps:List Nat)(a b:M)(e:Env):Blk:=⟨0,.lrec nt ps (e.map (·.1)) a b::.v (.int .i64 0)::.v (.int .i64 0)::e.map (·.2),true⟩
def aX(T:Tb)(q:eK)(o:Orc):Nat->M->St->Option (Ex×St)|0,_,_=>none|n+1,m,st=>match m with|.skip=>some (.go,st)|.reg keep ops free=>(match bE T q o free ops ⟨dT st.env keep,st.H⟩with|some st'=>some (.go,st')|none=>none)|.ops ops=>(match bE T q o 0 ops st with|some st'=>some (.go,st')|none=>none)|.again ops=>bif againAll T st ops then some (.go,st)else none|.seq a b=>(match aX T q o n a st with|some (.go,st')=>aX T q o n b st'|r=>r)|.cond c a b=>(match opnd st.env c with|some (.v (.bool t))=>aX T q o n (bif t then a else b) st|_=>none)|.block id a=>(match aX T q o n a st with|some (.out j,st')=>bif Nat.beq j id then some (.go,st')else some (.out j,st')|r=>r)|.loop a=>(match aX T q o n a st with|some (.go,st')=>aX T q o n (.loop a) st'|r=>r)|.rf g nt ps sl a b=>(match(opnd st.env g).bind callee with|some (.fn f,fs,caps)=>(match o (.fn f) (fs++[.yl st.H.length]++caps) (st.H++[some (fC nt ps a b (dT st.env sl))])with|some (_,H')=>(match pending H' st.H.length with|some ex=>some (ex,⟨st.env,H'.set st.H.length none⟩)|none=>none)|none=>none)|_=>none)|.exit id=>some (.out id,st)|.ret=>some (.back,st)|.bad=>none
def jJ:Nat->List A->Env|_,[]=>[]|i,a::l=>(i,a)::jJ (i+1) l
def qZ(T:Tb)(st:St):ResultVar->Option A|.tmp t=>cV st.env t|.cell p t=>match(cV st.env p).bind (nP T.gl.tab st.H),T t with|some cs,some ty=>sO ty cs 0|_,_=>none
def nH(T:Tb)(st:St):List ResultVar->Option (List A)|[]=>some []|r::rs=>match qZ T st r,nH T st rs with|some a,some as=>some (a::as)|_,_=>none
def dG(T:Tb)(st:St)(rs:List ResultVar):Option A:=match nH T st rs with|some [a]=>some a|some as=>some (.tup as)|none=>none
structure Ctx where
 T:Tb
 B:FuncId→Option MFn
 X:FuncId→List A→Option A
 XO:FuncId→Option (List A→aF→Option (A×aF))
def oB(C:Ctx)(f:FuncId):Bool:=match C.B f with|some m=>(match m.mode with|.pass=>true|_=>false)|none=>false
def AB(C:Ctx)(f:FuncId):Bool:=match C.B f with|some m=>(match m.mode with|.trim=>true|_=>false)|none=>false
mutual
def xK(n:Nat):A→Bool
 |.v _|.sl _ _|.fp _|.mf _|.its _ _|.lrec _ _ _ _ _=>true
 |.agg cs|.tup cs=>EX n cs
 |.clo _ fs caps=>EX n fs&&EX n caps
 |.ptr b _|.ref b _ _ _|.mp b|.yl b|.it b=>Nat.blt b n
def EX(n:Nat):List A→Bool
 |[]=>true
 |c::cs=>xK n c&&EX n cs
end
def W3(n:Nat):Nat->aF->Bool|0,_=>true|_,[]=>true|k+1,o::H=>(match o with|some blk=>EX n blk.cs|none=>true)&&W3 n k H
def I4(n:Nat):Option (A×aF)->Option (A×aF)|some (a,H)=>bif xK n a&&W3 n n H then some (a,H.take n)else none|none=>none
def d7(C:Ctx)(q:eK)(o:Orc)(n:Nat)(m:MFn)(as:List A)(H:aF):Option (A×aF):=if as.length<=m.nt then match aX C.T q o n m.body ⟨jJ 0 as,H⟩with|some (.go,st)|some (.back,st)=>(match dG C.T st m.res with|some a=>some (a,st.H)|none=>none)|_=>none else none
def dS:List Nat->List A->Env->Env|s::l,x::xs,e=>dS l xs ((s,x)::e)|_,_,e=>e
def jI(T:Tb)(q:eK)(o:Orc)(n:Nat)(b:Nat)(as:List A)(H:aF):Option (A×aF):=match bA H b with|some r=>if r.s=0/\as.length=r.ps.length then match aX T q o n r.a ⟨dS r.ps as (dS r.sl r.vs []),H⟩with|some (.go,s1)=>(match bA s1.H b with|some r1=>if r1.s=0 then match aX T q o n r.b ⟨s1.env,s1.H.set b (some (r1.blk 1 r1.p))⟩with|some (ex,s2)=>(match bA s2.H b with|some r2=>(match ex with|.go=>some (.v (.bool true),s2.H.set b (some (r2.blk 0 0)))|ex=>some (.v (.bool false),s2.H.set b (some (r2.blk 2 (IG ex)))))|none=>none)|none=>none else none|none=>none)|_=>none else none|none=>none
def aS(C:Ctx):Nat->eK|0,_,_=>none|n+1,f,as=>match C.X f as with|some r=>some r|none=>match C.B f with|none=>none|some m=>match d7 C (aS C n) (callO n) n m as []with|some (a,H)=>qC m.mode H a|none=>none where callO:Nat->Orc|0,_,_,_=>none|n+1,.fn f,as,H=>(match C.XO f with|some g=>g as H|none=>bif oB C f then match C.B f with|none=>none|some m=>d7 C (aS C n) (callO n) n m as H else bif AB C f then match C.B f with|none=>none|some m=>I4 H.length (d7 C (aS C n) (callO n) n m as H)else match dZ H as with|some as'=>(match aS C n f as' with|some r=>if(as.all shut)||iP r then some (r,H)else none|none=>none)|none=>none)|n+1,.yl b,as,H=>jI C.T (aS C n) (callO n) n b as H
variable{P:Program}{T:Tb}
def TOk(P:Program)(T:Tb):Prop:=∀t ty,T t=some ty->qK P t=some ty
structure i9(P:Program)(t:TypeId)(ty:Ty):Prop where
 info:∃ i z,P.info? t=some i∧i.size=ty.size∧i.bytes=ty.bytes∧i.zero=some z∧xR ty.k z=some ty.zero
 desc:∃ d,P.underlying t=some d∧kOf d=ty.k
 plain:ty.plain=true→P.eqGuardType P.depth t=false∧P.stoodInHeld t=false
theorem aD3{t:TypeId}{ty:Ty}(h:qK P t=some ty):i9 P t ty:=by unfold qK at h;cases hi:P.info? t with|none=>simp_all|some i=>cases hd:P.underlying t with|none=>simp_all|some d=>simp[hi,hd]at h;cases hz:i.zero with|none=>simp_all|some z=>simp[hz]at h;cases hz':xR (kOf d) z with|none=>simp_all|some zs=>simp[hz']at h;subst h;exact⟨⟨i,z,hi,rfl,rfl,hz,hz'⟩,⟨d,hd,rfl⟩,fun hp=>by simp_all⟩
theorem TOk.facts(hT:TOk P T){t:TypeId}{ty:Ty}(h:T t=some ty):i9 P t ty:=aD3 (hT t ty h)
section
variable{t:TypeId}{ty:Ty}(F:i9 P t ty)(w:World)
include F
theorem i9.run_sizeOf:(sizeOf t).run P w=.ok ty.size w:=by obtain⟨i,z,h,h1,-⟩:=F.info;simp[sizeOf,typeInfo,h,h1]
theorem i9.run_under:∃d,(underlying t).run P w=.ok d w/\kOf d=ty.k:=by obtain⟨d,h,h1⟩:=F.desc;exact⟨d,run_underlying h w,h1⟩
theorem i9.run_isAgg:(isAgg t).run P w=.ok ty.k.agg w:=by obtain⟨d,h,h1⟩:=F.run_under w;simp[isAgg,h];rw[<-h1];cases d<;>rfl
theorem i9.zero:∃z,(zeroValue t).run P w=.ok z w/\z.cells.toList=ty.zero/\(ty.k.agg=true->z=.agg ty.zero.toArray):=by obtain⟨i,z,h,-,-,h3,h4⟩:=F.info;refine⟨z,by simp[zeroValue,typeInfo,h,h3],?_,?_⟩;{unfold xR at h4;split at h4;{split at h4;{simpa[Value.cells]using h4};simp_all};{split at h4;{cases h4};{cases z<;>simp_all [Value.cells]}}};{intro ha;unfold xR at h4;split at h4;{simp[ha,if_true]at h4;rw[<-h4]};simp_all}
end
def cG(c:Cfg)(e:Env)(a:Act):Prop:=∀t x,cV e t=some x->R c.ρ c.own c.w x (a.tmps.getD t undef)
section
variable{c:Cfg}{e:Env}{a:Act}
theorem aCv{ρ:List Nat}{own:Nat->Prop}{w:World}(x:Value):R ρ own w (ofV x) x:=by unfold ofV;split;{rename_i xs;exact⟨xs.toList,by simp,RL.exact _⟩};{rw[R]}
theorem cG.opnd(he:cG c e a){x:Operand}{z:A}(h:opnd e x=some z):R c.ρ c.own c.w z (a.eval x):=by cases x with|tmp t=>exact he t z h|const v=>obtain rfl:=Option.some.inj h;exact aCv v|func f=>obtain rfl:=Option.some.inj h;rfl|global g=>obtain rfl:=Option.some.inj h;rfl
theorem cG.opnds(he:cG c e a):∀{l:List Operand}{zs:List A},opnds e l=some zs->RL c.ρ c.own c.w zs (l.map a.eval)|[],zs,h=>by obtain rfl:=Option.some.inj h;exact RL.nil|x::l,zs,h=>by unfold Ev.opnds at h;cases h1:Ev.opnd e x with|none=>simp_all|some z=>cases h2:Ev.opnds e l with|none=>simp_all|some zs'=>simp[h1,h2]at h;subst h;exact RL.cons (he.opnd h1) (he.opnds h2)
theorem R.open_{own:Nat->Prop}{w:World}{ρ:List Nat}{z:A}{y:Value}(h:R [] own w z y):R ρ own w z y:=R.keep ⟨List.nil_prefix,Nat.le_refl _,fun _ _ h=>⟨h,rfl⟩,fun _ cur _ fz h=>⟨cur,fz,h,rfl⟩,fun _ es n h=>⟨es,n,h⟩,fun _ o h _=>⟨o,h,rfl⟩⟩ z y h
theorem RL.open_{own:Nat->Prop}{w:World}{ρ:List Nat}{z:List A}{y:List Value}(h:RL [] own w z y):RL ρ own w z y:=RL.keep ⟨List.nil_prefix,Nat.le_refl _,fun _ _ h=>⟨h,rfl⟩,fun _ cur _ fz h=>⟨cur,fz,h,rfl⟩,fun _ es n h=>⟨es,n,h⟩,fun _ o h _=>⟨o,h,rfl⟩⟩ z y h
theorem Ok.lies(ok:Ok T.gl c){b g:Nat}{k:Blk}(hb:c.H[b]?=some (some k))(hg:c.ρ[b]?=some g)(hc0:∃cur e fz,c.w.heap[g]?=some (.cells cur e fz)):∃cur xs,c.w.heap[g]?=some (.cells cur k.e (0,0))/\RL c.ρ c.own c.w k.cs xs/\rK c.w g 0 xs/\xs<+:cur.toList/\(k.whole=true->cur.size=k.cs.length):=by obtain⟨cur0,e0,fz0,hc0⟩:=hc0;obtain⟨cur,xs,h1,h2,h3,h4⟩:=ok.cells hb hg hc0;refine⟨cur,xs,h1,h2,fun i x hx=>?_,h3,h4⟩;(have hc:cur[i]?=some x:=by have hlt:=(List.getElem?_eq_some_iff.1 hx).1;have:=h3.getElem hlt;grind);simp[World.cell?,h1,hc]
theorem IZ(ok:Ok T.gl c){p:A}{y:Value}{cs:List A}(h:nP T.gl.tab c.H p=some cs)(hr:R c.ρ c.own c.w p y):∃g off xs,y=.pointer (some ⟨g,off,none⟩)/\RL c.ρ c.own c.w cs xs/\rK c.w g off xs:=by cases p with|ptr b off=>(unfold nP at h;obtain⟨g,hg,rfl,hsh⟩:=hr;cases hb:c.H[b]? with|none=>simp_all|some k=>cases k with|none=>simp_all|some k=>simp[hb]at h;subst h;obtain⟨cur,xs,-,h2,h3,-⟩:=ok.lies hb hg hsh;refine⟨g,off,xs.drop off,rfl,h2.drop off,?_⟩;simpa using h3.drop off)|fp cs'=>obtain rfl:=Option.some.inj h;obtain⟨g,off,xs,h1,-,-,h4,h5⟩:=hr;exact⟨g,off,xs,h1,h4.open_,h5⟩|v x=>subst hr;unfold nP at h;split at h;{rename_i g off heq;cases heq;split at h;{rename_i vs hg;obtain rfl:=Option.some.inj h;obtain⟨-,-,h3,-⟩:=ok.glob.1 _ _ hg;exact⟨_,_,vs.drop off,rfl,RL.exact _,by simpa using h3.drop off⟩};simp_all};{simp_all};{simp_all};simp_all|_=>simp[nP]at h
theorem yD{t:TypeId}{ty:Ty}(F:i9 P t ty){w:World}{ρ:List Nat}{own:Nat->Prop}{g off:Nat}{cs:List A}{xs:List Value}{x:A}(h:sO ty cs 0=some x) (hr:RL ρ own w cs xs) (hl:rK w g off xs):∃y,(loadVar t ⟨g,off,none⟩).run P w=.ok y w/\R ρ own w x y:=by unfold sO at h;split at h;{simp[loadVar,F.run_isAgg w];by_cases ha:ty.k.agg=true;{simp[ha,if_true]at h⊢;subst h;(have hlen:(xs.take ty.size).length=ty.size:=by rw[List.length_take,hr.length];omega);(have hrun:=run_loadCells_list (P:=P) w ⟨g,off,none⟩ (xs.take ty.size) fun j v hv=>by rw[Addr.add_lit];exact hl.take ty.size j v hv);rw[hlen]at hrun;refine⟨.agg (xs.take ty.size).toArray,by simp[F.run_sizeOf w,hrun],?_⟩;exact⟨_,rfl,hr.take _⟩};{simp only[ha,Bool.false_eq_true,if_false]at h⊢;split at h;{obtain⟨y,hy,hry⟩:=hr.get 0 x h;have:=hl 0 y hy;simp_all};simp_all}};simp_all
theorem zQ{t:TypeId}{ty:Ty}(F:i9 P t ty){w:World}{ρ:List Nat}{own:Nat->Prop}{off:Nat}{cs:List A}{xs:List Value}{x:A}(h:sO ty cs off=some x) (hr:RL ρ own w cs xs):∃y,(part t xs.toArray off).run P w=.ok y w/\R ρ own w x y:=by unfold sO at h;split at h;{simp[part,F.run_isAgg w];by_cases ha:ty.k.agg=true;{simp[ha,if_true]at h⊢;subst h;refine⟨.agg ((xs.drop off).take ty.size).toArray,by simp[F.run_sizeOf w],?_⟩;exact⟨_,rfl,(hr.drop _).take _⟩};{simp only[ha,Bool.false_eq_true,if_false]at h⊢;split at h;{obtain⟨y,hy,hry⟩:=hr.get off x h;simp_all};simp_all}};simp_all
end
variable{P:Program}{T:Tb}
def aPx(k:K)(xs:List Value)(x:Value):Prop:=(k.agg=true->x=.agg xs.toArray)/\(k.agg=false->xs=[x])
theorem mJ{t:TypeId}{ty:Ty}(F:i9 P t ty)(w:World)(xs:List Value)(off:Nat)(h:off+ty.size<=xs.length)(h0:0<ty.size) (h1:ty.k.agg=false->ty.size=1):∃y,(part t xs.toArray off).run P w=.ok y w/\aPx ty.k ((xs.drop off).take ty.size) y:=by simp[part,F.run_isAgg w];by_cases ha:ty.k.agg=true;{simp[ha];exact⟨.agg ((xs.drop off).take ty.size).toArray,by simp[F.run_sizeOf w],(fun _=>rfl),(fun h=>by simp_all)⟩};{simp at ha;have h2:=h1 ha;(have hlt:off<xs.length:=by omega);refine⟨xs[off],by simp_all,(fun h=>by simp_all),(fun _=>?_)⟩;rw[h2,List.drop_eq_getElem_cons hlt,List.take_succ_cons,List.take_zero]}
theorem yN{α β:Type}(x:α)(l:List α)(b:β)(f:α->β->Sem (ForInStep β)):forIn (x::l) b f=f x b>>=fun r=>match r with|.done b=>pure b|.yield b=>forIn l b f:=by rw[List.forIn_cons];rfl
theorem RL.single{ρ:List Nat}{own:Nat->Prop}{w:World}{a:A}{ys:List Value}(h:RL ρ own w [a] ys):∃y,ys=[y]/\R ρ own w a y:=by obtain⟨x,xs,rfl,h1,h2⟩:=h;rw[RL]at h2;simp_all
theorem RL.exact_of{ρ:List Nat}{own:Nat->Prop}{w:World}{x:Value}{ys:List Value}(h:RL ρ own w [.v x] ys):ys=[x]:=by obtain⟨y,rfl,h1⟩:=h.single;rw[h1]
theorem IN(hT:TOk P T):∀(d:Nat) (t:TypeId) (ty:Ty) (xs ys:List A) (b:Bool),T t=some ty->eqT T d t xs ys=some b->ty.k.agg=false->xs.length=1:=by intro d t ty xs ys b hty h ha;cases d with|zero=>simp[eqT]at h|succ d=>unfold eqT at h;cases hk:ty.k with|struct fs=>simp[hk,K.agg]at ha|array n e=>simp[hk,K.agg]at ha|bool=>grind|int k=>grind|str=>grind|_=>simp_all
theorem aCR(hT:TOk P T){ρ:List Nat}{own:Nat→Prop}{w:World}:∀(d D:Nat) (t:TypeId) (ty:Ty) (xs ys:List A) (us vs:List Value) (u v:Value) (b:Bool),d≤D→T t=some ty→eqT T d t xs ys=some b →
  RL ρ own w xs us→RL ρ own w ys vs→aPx ty.k us u→aPx ty.k vs v→(Op.equalIn D t u v).run P w=.ok b w:=by
 intro d
 induction d with
 |zero=>intro D t ty xs ys us vs u v b _ _ h;simp[eqT]at h
 |succ d ih =>
  intro D t ty xs ys us vs u v b hD hty h hx hy hu hv
  obtain⟨D,rfl⟩:∃ D',D=D'+1:=⟨D-1,by omega⟩
  have hD':d≤D:=by omega
  have F:=hT.facts hty
  obtain⟨tyd,hd,hkd⟩:=F.desc
  unfold eqT at h
  simp only[hty]at h
  cases hk:ty.k with
  |bool =>
   simp only[hk]at h
   split at h
   ·rename_i p q
    obtain rfl:=Option.some.inj h
    obtain rfl:=hx.exact_of
    obtain rfl:=hy.exact_of
    obtain rfl:u=.bool p:=by have:=hu.2 (by simp[hk,K.agg]);simpa using this.symm
    obtain rfl:v=.bool q:=by have:=hv.2 (by simp[hk,K.agg]);simpa using this.symm
    rw[hk]at hkd
    cases tyd<;>simp[kOf]at hkd
    unfold Op.equalIn
    simp[run_underlying hd]
   ·cases h
  |int k =>
   simp only[hk]at h
   split at h
   ·rename_i k1 p k2 q
    split at h
    ·obtain rfl:=Option.some.inj h
     obtain rfl:=hx.exact_of
     obtain rfl:=hy.exact_of
     obtain rfl:u=.int k1 p:=by have:=hu.2 (by simp[hk,K.agg]);simpa using this.symm
     obtain rfl:v=.int k2 q:=by have:=hv.2 (by simp[hk,K.agg]);simpa using this.symm
     rw[hk]at hkd
     cases tyd<;>simp[kOf]at hkd
     unfold Op.equalIn
     simp[run_underlying hd, *]
    ·cases h
   ·cases h
  |str =>
   simp only[hk]at h
   split at h
   ·rename_i p q
    obtain rfl:=Option.some.inj h
    obtain rfl:=hx.exact_of
    obtain rfl:=hy.exact_of
    obtain rfl:u=.string p:=by have:=hu.2 (by simp[hk,K.agg]);simpa using this.symm
    obtain rfl:v=.string q:=by have:=hv.2 (by simp[hk,K.agg]);simpa using this.symm
    rw[hk]at hkd
    cases tyd<;>simp[kOf]at hkd
    unfold Op.equalIn
    simp[run_underlying hd]
   ·cases h
  |struct fs =>
   simp only[hk]at h
   split at h
   ·rename_i hpl
    obtain⟨-,hst⟩:=F.plain hpl
    rw[hk]at hkd
    cases tyd with
    |struct fds =>
     simp only[kOf,K.struct.injEq]at hkd
     obtain rfl:=hu.1 (by simp[hk,K.agg])
     obtain rfl:=hv.1 (by simp[hk,K.agg])
     have key:∀(fl:List Field) (b:Bool),zZ T (eqT T d) (fl.map fun f=>(f.type,f.offset,f.name != "_")) xs ys=some b →
       (forIn (m:=Sem) fl ((none,()):Option Bool×Unit) fun(f:Field) _ =>
        if f.name≠ "_" then do
         let x ← part f.type us.toArray f.offset
         let y ← part f.type vs.toArray f.offset
         let r ← Op.equalIn D f.type x y
         if(!r)=true then pure (ForInStep.done (some false,()))else pure (ForInStep.yield (none,()))
        else pure (ForInStep.yield (none,()))).run P w=.ok (if b then(none,())else(some false,())) w:=by
      intro fl
      induction fl with
      |nil=>intro b hb;simp[zZ]at hb;subst hb;simp
      |cons f fl ihf =>
       intro b hb
       rw[yN,Sem.run_bind]
       simp only[List.map_cons]at hb
       unfold zZ at hb
       cases hft:T f.type with
       |none=>simp[hft]at hb
       |some fty =>
        simp only[hft]at hb
        by_cases hn:f.name= "_"
        ·simp only[hn,bne_self_eq_false,Bool.false_eq_true,if_false]at hb
         rw[if_neg (by simp[hn])]
         simp only[Sem.run_pure,Result.andThen_ok]
         exact ihf b hb
        ·have hn':(f.name != "_")=true:=by simpa using hn
         simp only[hn',if_true]at hb
         split at hb
         ·rename_i hsz
          cases h1:eqT T d f.type ((xs.drop f.offset).take fty.size) ((ys.drop f.offset).take fty.size)with
          |none=>simp[h1]at hb
          |some b1 =>
           cases h2:zZ T (eqT T d) (fl.map fun f=>(f.type,f.offset,f.name != "_")) xs ys with
           |none=>simp[h1,h2]at hb
           |some b2 =>
            simp only[h1,h2,Option.some.injEq]at hb
            subst hb
            have F1:=hT.facts hft
            have hs1:fty.k.agg=false→fty.size=1:=fun ha=>by
             have:=IN hT d f.type fty _ _ b1 hft h1 ha
             simp at this
             omega
            obtain⟨p,hp,hpm⟩:=mJ F1 w us f.offset (by rw[hx.length];omega) hsz.2.2 hs1
            obtain⟨q,hq,hqm⟩:=mJ F1 w vs f.offset (by rw[hy.length];omega) hsz.2.2 hs1
            have h3:=ih D f.type fty _ _ _ _ p q b1 hD' hft h1 ((hx.drop _).take _) ((hy.drop _).take _) hpm hqm
            rw[if_pos hn]
            simp only[Sem.run_bind,hp,hq,h3,Result.andThen_ok]
            cases b1
            ·simp
            ·simp only[Bool.not_true,Bool.false_eq_true,if_false,Sem.run_pure,Result.andThen_ok,Bool.true_and]
             exact ihf b2 h2
         ·cases hb
     have:=key fds.toList b (by rw[hkd];omega)
     unfold Op.equalIn
     simp only[Sem.run_bind,run_underlying hd,Result.andThen_ok,run_program,hst,Bool.false_eq_true,if_false]
     rw[← Array.forIn_toList]
     rw[this]
     cases b<;>simp
    |_=>simp[kOf]at hkd
   ·cases h
  |array n e =>
   simp only[hk]at h
   cases hte:T e with
   |none=>simp[hte]at h
   |some te =>
    simp only[hte]at h
    rw[hk]at hkd
    cases tyd with
    |array n' e' =>
     simp only[kOf,K.array.injEq]at hkd
     obtain⟨rfl,rfl⟩:=hkd
     obtain rfl:=hu.1 (by simp[hk,K.agg])
     obtain rfl:=hv.1 (by simp[hk,K.agg])
     have Fe:=hT.facts hte
     have key:∀(m i:Nat) (b:Bool),eqN (eqT T d) e' te.size m i xs ys=some b →
       (forIn (m:=Sem) (List.range' i m) ((none,()):Option Bool×Unit) fun(i:Nat) _=>do
         let x ← part e' us.toArray (i*te.size)
         let y ← part e' vs.toArray (i*te.size)
         let r ← Op.equalIn D e' x y
         if(!r)=true then pure (ForInStep.done (some false,()))else pure (ForInStep.yield (none,()))).run P w=.ok (if b then(none,())else(some false,())) w:=by
      intro m
      induction m with
      |zero=>intro i b hb;simp[eqN]at hb;subst hb;simp
      |succ m ihm =>
       intro i b hb
       rw[List.range'_succ,yN,Sem.run_bind]
       unfold eqN at hb
       split at hb
       ·rename_i hsz
        cases h1:eqT T d e' ((xs.drop (i*te.size)).take te.size) ((ys.drop (i*te.size)).take te.size)with
        |none=>simp[h1]at hb
        |some b1 =>
         cases h2:eqN (eqT T d) e' te.size m (i+1) xs ys with
         |none=>simp[h1,h2]at hb
         |some b2 =>
          simp only[h1,h2,Option.some.injEq]at hb
          subst hb
          have hs1:te.k.agg=false→te.size=1:=fun ha=>by
           have:=IN hT d e' te _ _ b1 hte h1 ha
           simp at this
           omega
          obtain⟨p,hp,hpm⟩:=mJ Fe w us (i*te.size) (by rw[hx.length];omega) hsz.2.2 hs1
          obtain⟨q,hq,hqm⟩:=mJ Fe w vs (i*te.size) (by rw[hy.length];omega) hsz.2.2 hs1
          have h3:=ih D e' te _ _ _ _ p q b1 hD' hte h1 ((hx.drop _).take _) ((hy.drop _).take _) hpm hqm
          simp only[Sem.run_bind,hp,hq,h3,Result.andThen_ok]
          cases b1
          ·simp
          ·simp only[Bool.not_true,Bool.false_eq_true,if_false,Sem.run_pure,Result.andThen_ok,Bool.true_and]
           exact ihm (i+1) b2 h2
       ·cases hb
     have:=key n' 0 b h
     unfold Op.equalIn
     simp only[Sem.run_bind,run_underlying hd,Result.andThen_ok,Fe.run_sizeOf w]
     rw[Std.Legacy.Range.forIn_eq_forIn_range']
     simp only[Std.Legacy.Range.size,Nat.sub_zero,Nat.add_sub_cancel,Nat.div_one]
     rw[this]
     cases b<;>simp
    |_=>simp[kOf]at hkd
  |_=>simp[hk]at h
variable{P:Program}{T:Tb}
theorem nF(op:BinOp)(t:TypeId)(x y:Operand)(a b:Value)(w:World)(h1:∀p q,a=.agg p->b=.agg q->P.eqGuardType P.depth t=false)(h2:a=.nilIface->b=.nilIface->False):(eqGuard op t x y a b).run P w=.ok () w:=by unfold eqGuard;cases op<;>first|omega|(cases a<;>first|(simp;done)|(cases b<;>first|simp_all|omega|simp_all))
theorem aIn{op:BinOp}{x y r:Value}(t:TypeId)(w:World)(h:yS op x y=some r):(binOp op t x y).run P w=.ok r w:=by unfold yS at h;split at h;{rename_i k a k' b;cases op with|shl=>simp only at h;split at h;{cases h};{rename_i hb;obtain rfl:=Option.some.inj h;simp[binOp,Op.shift,hb]}|shr=>simp only at h;split at h;{cases h};{rename_i hb;obtain rfl:=Option.some.inj h;simp[binOp,Op.shift,hb]}|quo=>simp only at h;split at h;{rename_i hk;split at h;{cases h};{rename_i hb;obtain rfl:=Option.some.inj h;simp[binOp,hk,Op.intDiv,hb]}};simp_all|rem=>simp only at h;split at h;{rename_i hk;split at h;{cases h};{rename_i hb;obtain rfl:=Option.some.inj h;simp[binOp,hk,Op.intDiv,hb]}};simp_all|_=>simp only at h;split at h;{rename_i hk;subst hk;obtain rfl:=Option.some.inj h;simp[binOp,Op.intArith,Op.intBits,Op.intCmp]};simp_all};{rename_i a b;cases op with|add=>simp only at h;split at h;{cases h};{rename_i hb;obtain rfl:=Option.some.inj h;simp only[binOp,Op.stringOp,if_neg hb,Sem.run_pure]}|_=>simp only at h;first|(obtain rfl:=Option.some.inj h;simp[binOp,Op.stringOp])|cases h};simp_all
theorem aCp{op:BinOp}{x y r:Value}(h:yS op x y=some r):(∀p q,x=.agg p->y=.agg q->False)/\(x=.nilIface->y=.nilIface->False):=by unfold yS at h;grind
theorem PD(t:TypeId){x y:Value}{b:Bool}{w:World}(h:(Op.equal t x y).run P w=.ok b w) (h1:∀k a k' b,x=.int k a->y=.int k' b->False) (h2:∀k a k' b,x=.float k a->y=.float k' b->False) (h3:∀k a a' k' b b',x=.complex k a a'->y=.complex k' b b'->False) (h4:∀a b,x=.string a->y=.string b->False):(binOp .eql t x y).run P w=.ok (.bool b) w/\(binOp .neq t x y).run P w=.ok (.bool !b) w:=by constructor<;>·unfold binOp;simp_all
variable{P:Program}{T:Tb}
theorem kS{t:TypeId}{x y:Value}{r:Bool}{w:World}(h:∀d,(Op.equalIn (d+1) t x y).run P w=.ok r w):(Op.equal t x y).run P w=.ok r w:=h 9999
set_option maxHeartbeats 400000 in theorem YM {ρ:List Nat}{own:Nat->Prop}{w:World}{t:TypeId}{d:TypeDesc}(hd:P.underlying t=some d){a b:A}{x y:Value}{r:Bool}(h:t9 (kOf d) a b=some r) (ha:R ρ own w a x) (hb:R ρ own w b y):(Op.equal t x y).run P w=.ok r w/\(∀k a k' b,x=.int k a->y=.int k' b->False)/\(∀k a k' b,x=.float k a->y=.float k' b->False)/\(∀k a a' k' b b',x=.complex k a a'->y=.complex k' b b'->False)/\(∀a b,x=.string a->y=.string b->False)/\(∀p q,x=.agg p->y=.agg q->False)/\(x=.nilIface->y=.nilIface->False):=by(cases d<;>simp only[kOf,t9]at h<;>try simp_all);all_goals split at h<;>first|(cases h;done)|(simp only[R]at ha hb;obtain rfl:=Option.some.inj h;first|(obtain⟨g,cap,cur,e,fz,-,rfl,-⟩:=ha;obtain rfl:=hb;refine⟨kS (fun d=>by unfold Op.equalIn;simp[run_underlying hd]),?_⟩;simp;done)|(obtain⟨g,cap,cur,e,fz,-,rfl,-⟩:=hb;obtain rfl:=ha;refine⟨kS (fun d=>by unfold Op.equalIn;simp[run_underlying hd]),?_⟩;simp;done)|(rcases ha with⟨ha,-⟩|⟨g,off,cap,xs,rfl,-⟩;{omega};{obtain rfl:=hb;refine⟨kS (fun d=>by unfold Op.equalIn;simp[run_underlying hd]),?_⟩;simp})|(rcases hb with⟨hb,-⟩|⟨g,off,cap,xs,rfl,-⟩;{omega};{obtain rfl:=ha;refine⟨kS (fun d=>by unfold Op.equalIn;simp[run_underlying hd]),?_⟩;simp})|omega|omega|(obtain⟨g,off,xs,rfl,-⟩:=ha;obtain rfl:=hb;refine⟨kS (fun d=>by unfold Op.equalIn;simp[run_underlying hd]),?_⟩;simp)|(obtain⟨g,off,xs,rfl,-⟩:=hb;obtain rfl:=ha;refine⟨kS (fun d=>by unfold Op.equalIn;simp[run_underlying hd]),?_⟩;simp)|(obtain⟨xs,ys,rfl,-⟩:=ha;obtain rfl:=hb;refine⟨kS (fun d=>by unfold Op.equalIn;simp[run_underlying hd]),?_⟩;simp)|(obtain⟨xs,ys,rfl,-⟩:=hb;obtain rfl:=ha;refine⟨kS (fun d=>by unfold Op.equalIn;simp[run_underlying hd]),?_⟩;simp)|simp)
variable{P:Program}{T:Tb}
theorem JM(hT:TOk P T){ρ:List Nat}{own:Nat->Prop}{w:World}{t:TypeId}{ty:Ty}(hty:T t=some ty){a b:A}{x y:Value}{r:Bool}(h:yG T t ty a b=some r) (ha:R ρ own w a x) (hb:R ρ own w b y):(Op.equal t x y).run P w=.ok r w/\(∀k a k' b,x=.int k a->y=.int k' b->False)/\(∀k a k' b,x=.float k a->y=.float k' b->False)/\(∀k a a' k' b b',x=.complex k a a'->y=.complex k' b b'->False)/\(∀a b,x=.string a->y=.string b->False)/\(∀p q,x=.agg p->y=.agg q->P.eqGuardType P.depth t=false)/\(x=.nilIface->y=.nilIface->False):=by have F:=hT.facts hty;obtain⟨d,hd,hkd⟩:=F.desc;unfold yG at h;cases hn:t9 ty.k a b with|some r'=>rw[<-hkd]at hn;obtain⟨h1,h2,h3,h4,h5,h6,h7⟩:=YM hd hn ha hb;grind|none=>simp only[hn]at h;split at h;{rename_i xs ys;split at h;{rename_i hc;simp at hc;obtain⟨us,rfl,hus⟩:=ha;obtain⟨vs,rfl,hvs⟩:=hb;have:=aCR hT 20 Op.maxDepth t ty xs ys us vs (.agg us.toArray) (.agg vs.toArray) r (by decide) hty h hus hvs ⟨(fun _=>rfl),(fun h=>by simp_all)⟩ ⟨(fun _=>rfl),(fun h=>by simp_all)⟩;refine⟨this,?_⟩;simp[(F.plain hc.2).1]};simp_all};{split at h;{rename_i hk;obtain rfl:=Option.some.inj h;subst ha hb;rw[hk]at hkd;cases d<;>simp[kOf]at hkd;refine⟨kS (fun d=>by unfold Op.equalIn;simp[run_underlying hd]),?_⟩;simp};simp_all};simp_all
theorem aDy(hT:TOk P T){ρ:List Nat}{own:Nat→Prop}{w:World}{t:TypeId}{op:BinOp}{a b z:A}{x y:Value}(xo yo:Operand)
  (h:U2 T op t a b=some z) (ha:R ρ own w a x) (hb:R ρ own w b y):∃ u,(do eqGuard op t xo yo x y;binOp op t x y).run P w=.ok u w∧R ρ own w z u:=by
 unfold U2 at h
 cases hty:T t with
 |none=>simp_all
 |some ty =>
  simp[hty]at h
  split at h
  ·rename_i r hs
   obtain rfl:=Option.some.inj h
   obtain⟨h1,h2,h3,h4,h5,h6,h7⟩:=JM hT hty hs ha hb
   refine⟨.bool r,?_,by rw[R]⟩
   rw[Sem.run_bind,nF _ _ _ _ _ _ _ h6 h7]
   exact(PD t h1 h2 h3 h4 h5).1
  ·rename_i r hs
   obtain rfl:=Option.some.inj h
   obtain⟨h1,h2,h3,h4,h5,h6,h7⟩:=JM hT hty hs ha hb
   refine⟨.bool !r,?_,by rw[R]⟩
   rw[Sem.run_bind,nF _ _ _ _ _ _ _ h6 h7]
   exact(PD t h1 h2 h3 h4 h5).2
  simp_all
section
variable{c:Cfg}{e:Env}{a:Act}{o:Oper}{x:A}
def bN(P:Program)(c:Cfg)(a:Act)(o:Oper)(x:A):Prop:=∃y,(execOp a.eval o).run P c.w=.ok (.value y) c.w/\R c.ρ c.own c.w x y
theorem bN.mk{s:Sem Value}{y:Value}(hx:execOp a.eval o=(do pure (.value (<-s))))(h:s.run P c.w=.ok y c.w)(hr:R c.ρ c.own c.w x y):bN P c a o x:=⟨y,by simp_all,hr⟩
theorem aCK(hT:TOk P T)(he:cG c e a){op:BinOp}{t t':TypeId}{p q:Operand}(ho:o.op=.binOp op t p q t')(h:aL T e c.H (.binOp op t p q t')=some x):bN P c a o x:=by
 simp[aL]at h
 have hx:execOp a.eval o=(do pure (.value (← (do eqGuard op t p q (a.eval p) (a.eval q);binOp op t (a.eval p) (a.eval q))))):=by simp[execOp,ho]
 cases hp:opnd e p with
 |none=>simp_all
 |some u =>
  cases hq:opnd e q with
  |none=>simp_all
  |some v =>
   have hu:=he.opnd hp
   have hv:=he.opnd hq
   simp[hp,hq]at h
   have viaEq:∀ z,U2 T op t u v=some z→bN P c a o z:=fun z hz=>by
    obtain⟨y,h1,h2⟩:=aDy hT p q hz hu hv
    exact bN.mk hx h1 h2
   split at h
   ·rename_i m n h1 h2
    obtain rfl:=Option.some.inj h1
    obtain rfl:=Option.some.inj h2
    cases hb:yS op m n with
    |some r =>
     simp[hb]at h
     subst h
     obtain⟨n1,n2⟩:=aCp hb
     refine bN.mk  hx ?_ (by rw[R])
     rw[hu,hv,Sem.run_bind,nF _ _ _ _ _ _ _ (fun p q h1 h2=>(n1 p q h1 h2).elim) n2]
     exact aIn t c.w hb
    |none =>
     simp_all
   ·simp_all
   simp_all
theorem aJc (he:cG c e a){op:UnOp}{t:TypeId}{p:Operand}(ho:o.op=.unOp op t p) (h:aL T e c.H (.unOp op t p)=some x):bN P c a o x:=by simp[aL]at h;(have hx:execOp a.eval o=(do pure (.value (<-Op.unary op (a.eval p)))):=by simp[execOp,ho]);split at h;all_goals first|(cases h;done)|(rename_i hp;obtain rfl:=Option.some.inj h;have hu:=he.opnd hp;refine bN.mk hx ?_ (by rw[R]);rw[hu];simp[Op.unary,Op.intArith,Op.intBits])
theorem tR{ρ:List Nat}{own:Nat->Prop}{w:World}:∀{cs:List A}{ys:List Value}{l:List UInt8},RL ρ own w cs ys->bytesOf cs=some l->ys=Lib.byteCells l|[],ys,l,h,hb=>by subst h;simp[bytesOf]at hb;subst hb;rfl|c::cs,ys,l,h,hb=>by obtain⟨y,xs,rfl,h1,h2⟩:=h;unfold bytesOf at hb;split at hb;{simp_all};{rename_i x l0 heq;injection heq with e1 e2;subst e1;subst e2;split at hb;{rw[Option.map_eq_some_iff]at hb;obtain⟨r,hr,rfl⟩:=hb;subst h1;rw[tR h2 hr];(have:(UInt8.ofNat x.toNat).toNat=x.toNat:=by simp_all);congr 2;omega};simp_all};simp_all
theorem LG(hT:TOk P T)(ok:Ok T.gl c)(he:cG c e a){t t':TypeId}{p:Operand}(ho:o.op=.convert t t' p)(h:aL T e c.H (.convert t t' p)=some x):bN P c a o x:=by simp only[aL]at h;(have hx:execOp a.eval o=(do pure (.value (<-convert t t' (a.eval p))):Sem Next):=by simp only[execOp,ho]);split at h;{rename_i hs hd hp;have hu:=he.opnd hp;simp only[R]at hu;obtain⟨d1,h1,-⟩:=(hT.facts hs).desc;obtain⟨d2,h2,k2⟩:=(hT.facts hd).desc;split at h;{rename_i k hk;obtain rfl:=Option.some.inj h;rw[hk]at k2;cases d2<;>simp[kOf]at k2;subst k2;refine bN.mk hx (y:=_) ?_ (by rw[R]);rw[hu];simp[convert,run_underlying h1,run_underlying h2,Conv.intToInt]};simp_all};{rename_i hs hd hp;have hu:=he.opnd hp;simp only[R]at hu;obtain⟨d1,h1,-⟩:=(hT.facts hs).desc;obtain⟨d2,h2,k2⟩:=(hT.facts hd).desc;split at h;{rename_i hk;obtain rfl:=Option.some.inj h;rw[hk]at k2;cases d2<;>simp[kOf]at k2;refine bN.mk hx (y:=_) ?_ (by rw[R]);rw[hu];simp[convert,run_underlying h1,run_underlying h2]};simp_all};{rename_i sty ty b off len sz hs hd hp;cases hq:Nat.beq t' 9 with|false=>simp_all|true=>rw[hq,cond_true]at h;have hr:=he.opnd hp;rw[R]at hr;obtain⟨g,cap,cur0,e0,fz0,hg,hy,hlc,hcm,hcur0,hroom⟩:=hr;obtain⟨d1,h1,k1⟩:=(hT.facts hs).desc;obtain⟨d2,h2,k2⟩:=(hT.facts hd).desc;unfold J6 at h;split at h;{rename_i el blk hk1 hk2 hb;split at h;{rename_i te l hte hl;split at h;{rename_i hku;split at h;{rename_i hc;obtain⟨hsz,hln⟩:=hc;obtain rfl:=Option.some.inj h;rw[hk1]at k1;rw[hk2]at k2;obtain⟨d3,h3,k3⟩:=(hT.facts hte).desc;rw[hku]at k3;cases d1<;>simp[kOf]at k1;subst k1;cases d2<;>simp[kOf]at k2;cases d3<;>simp[kOf]at k3;subst k3;obtain⟨cur,xs,hcur,hxs,hlie,hpre,-⟩:=ok.lies hb hg ⟨cur0,e0,fz0,hcur0⟩;have hb1:=tR ((hxs.drop off).take len) hl;refine bN.mk hx (y:=.string ⟨l.toArray⟩) ?_ (by rw[R]);rw[hy];have hrun:=run_convert_bytes_arg (P:=P) c.w t _ h1 h3 g off len cap (l.map fun b=>(b.toNat:Int)) (by simp_all) (fun i hi=>by refine hlie (off+i) _ ?_|>fun hh=>(by rw[Nat.zero_add]at hh;omega);(have h9:((xs.drop off).take len)[i]?=some (.int .u8 (l[i]'(by omega)).toNat):=by rw[hb1];simp only[Lib.byteCells,List.getElem?_map,List.getElem?_eq_getElem (show i<l.length by omega),Option.map_some]);rw[List.getElem?_take,if_pos hi,List.getElem?_drop]at h9;simp_all) t' h2;(have he8:strOfNums (l.map fun b=>(b.toNat:Int))=⟨l.toArray⟩:=by unfold strOfNums;congr 1;simp[Function.comp_def]);simp_all};simp_all};simp_all};simp_all};simp_all};simp_all
theorem aH8(hT:TOk P T)(ok:Ok T.gl c)(he:cG c e a){t:TypeId}{p:Operand}(ho:o.op=.load t p)(h:aL T e c.H (.load t p)=some x):bN P c a o x:=by simp[aL]at h;(have hx:execOp a.eval o=(do pure (.value (<-Instr.loadAt t (a.eval p)))):=by simp[execOp,ho]);cases hp:opnd e p with|none=>simp_all|some u=>cases hr:nP T.gl.tab c.H u with|none=>simp_all|some cs=>cases hty:T t with|none=>simp_all|some ty=>simp[hp,hr,hty]at h;obtain⟨g,off,xs,h1,h2,h3⟩:=IZ ok hr (he.opnd hp);obtain⟨y,h4,h5⟩:=yD (hT.facts hty) h h2 h3;refine bN.mk hx ?_ h5;rw[h1];simpa[Instr.loadAt,Instr.sureAddr]using h4
theorem HL (he:cG c e a){p:Operand}(ho:o.op=.nilCheck p) (h:aL T e c.H (.nilCheck p)=some x):bN P c a o x:=by simp[aL]at h;split at h;all_goals first|(cases h;done)|(rename_i hp;obtain rfl:=Option.some.inj h;have hu:=he.opnd hp;refine⟨a.eval p,?_,hu⟩;simp[R]at hu;first|simp|(done)|(obtain⟨xs,ys,hu,-⟩:=hu;simp[execOp,ho,hu])|(simp[execOp,ho,hu]))
theorem aHi(he:cG c e a){p q r:Operand}(ho:o.op=.pick p q r)(h:aL T e c.H (.pick p q r)=some x):bN P c a o x:=by simp[aL]at h;split at h;{rename_i t u v hp hq hr;obtain rfl:=Option.some.inj h;have h1:=he.opnd hp;simp[R]at h1;refine⟨if t then a.eval q else a.eval r,by simp[execOp,ho,h1,asBool],?_⟩;cases t;{exact he.opnd hr};{exact he.opnd hq}};{rename_i u hp hq hr;obtain rfl:=Option.some.inj h;have h1:=he.opnd hp;simp[R]at h1;exact⟨a.eval q,by simp[execOp,ho,h1,asBool],he.opnd hq⟩};{rename_i u hp hq hr;obtain rfl:=Option.some.inj h;have h1:=he.opnd hp;simp[R]at h1;exact⟨a.eval r,by simp[execOp,ho,h1,asBool],he.opnd hr⟩};simp_all
theorem MP(he:cG c e a){p:Operand}{i:Nat}(ho:o.op=.extract p i)(h:aL T e c.H (.extract p i)=some x):bN P c a o x:=by simp[aL]at h;(have hx:execOp a.eval o=(do pure (.value (<-Instr.extract (a.eval p) i))):=by simp[execOp,ho]);split at h;{rename_i cs hp;have h1:=he.opnd hp;obtain⟨xs,h1,h2⟩:=h1;obtain⟨y,hy,hr⟩:=h2.get i x h;refine bN.mk hx ?_ hr;rw[h1];simp[Instr.extract,hy]};{rename_i xs hp;have h1:=he.opnd hp;cases hi:xs[i]? with|none=>simp_all|some y=>simp[hi,Option.map_some]at h;subst h;refine bN.mk hx ?_ (aCv y);rw[h1];simp[Instr.extract,hi]};simp_all
theorem HX(he:cG c e a){fn:Fn}{p q:Array Operand}(ho:o.op=.makeFunc fn p q)(h:aL T e c.H (.makeFunc fn p q)=some x):bN P c a o x:=by simp[aL]at h;(have hx:execOp a.eval o=(do pure (.value (<-Instr.makeFunc fn (p.map a.eval) (q.map a.eval)))):=by simp[execOp,ho]);split at h;{rename_i f xs ys h1 h2;obtain rfl:=Option.some.inj h;refine bN.mk hx rfl ?_;exact⟨p.toList.map a.eval,q.toList.map a.eval,by simp[<-Array.toList_map],he.opnds h1,he.opnds h2⟩};simp_all
end
variable{P:Program}{T:Tb}
theorem tC{d:TypeDesc}{fs:List (TypeId×Nat×Bool)}(h:kOf d=.struct fs):∃fds:Array Field,d=.struct fds/\fds.toList.map (fun f=>(f.type,f.offset,f.name !="_"))=fs:=by cases d with|struct fds=>simp[kOf]at h;simp_all|_=>simp[kOf]at h
theorem kA{d:TypeDesc}{e:TypeId}(h:kOf d=.slice e):d=.slice e:=by cases d<;>simp[kOf]at h;rw[h]
theorem mQ{d:TypeDesc}{n:Nat}{e:TypeId}(h:kOf d=.array n e):d=.array n e:=by cases d<;>simp[kOf]at h;simp_all
theorem vJ{d:TypeDesc}(h:kOf d=.str):d=.string:=by cases d<;>simp[kOf]at h;rfl
section
variable{c:Cfg}{e:Env}{a:Act}{o:Oper}{x:A}
theorem IJ{fds:Array Field}{fs:List (TypeId×Nat×Bool)}(hf:fds.toList.map (fun f=>(f.type,f.offset,f.name !="_"))=fs){i:Nat}{t:TypeId}{off:Nat}{b:Bool}(h:fs[i]?=some (t,off,b)):∃f,fds[i]?=some f/\f.type=t/\f.offset=off:=by grind
theorem HD(hT:TOk P T)(he:cG c e a){t:TypeId}{p:Operand}{i:Nat}(ho:o.op=.fieldAddr t p i)(h:aL T e c.H (.fieldAddr t p i)=some x):bN P c a o x:=by simp[aL]at h;(have hx:execOp a.eval o=(do pure (.value (<-Instr.fieldAt t (a.eval p) i))):=by simp[execOp,ho]);split at h;{rename_i ty u hty hp;split at h;{rename_i fs hk;split at h;{rename_i ft off b hf;split at h;{rename_i fty hft;split at h;{obtain⟨d,hd,hkd⟩:=(hT.facts hty).desc;rw[hk]at hkd;obtain⟨fds,rfl,hfs⟩:=tC hkd;obtain⟨f,hf1,hf2,hf3⟩:=IJ hfs hf;have hs:=(hT.facts hft).run_sizeOf c.w;rw[<-hf2]at hs;(have hn:¬fty.size=0:=by omega);have hu:=he.opnd hp;split at h;{rename_i b0 o0;obtain rfl:=Option.some.inj h;obtain⟨g,hg,hu,hsh⟩:=hu;refine bN.mk hx (y:=.pointer (some ⟨g,o0+off,none⟩)) ?_ (by rw[R];simp_all);rw[hu];simp[Instr.fieldAt,run_underlying hd,hf1,Instr.sureAddr,fieldPlace,hs,hn,Addr.add_lit]};{obtain rfl:=Option.some.inj h;obtain⟨g,o1,xs,hu,h2,h3,h4,h5⟩:=hu;refine bN.mk hx ?_ (by exact⟨g,o1+off,xs.drop off,rfl,h2,h3,h4.drop _,h5.drop _⟩);rw[hu];simp[Instr.fieldAt,run_underlying hd,hf1,Instr.sureAddr,fieldPlace,hs,hn,Addr.add_lit]};simp_all};simp_all};simp_all};simp_all};simp_all};simp_all
theorem YW(hT:TOk P T)(he:cG c e a){t:TypeId}{p:Operand}{i:Nat}(ho:o.op=.field t p i)(h:aL T e c.H (.field t p i)=some x):bN P c a o x:=by simp[aL]at h;(have hx:execOp a.eval o=(do pure (.value (<-Instr.field t (a.eval p) i))):=by simp[execOp,ho]);split at h;{rename_i ty cs hty hp;split at h;{rename_i fs hk;split at h;{rename_i ft off b hf;split at h;{rename_i fty hft;obtain⟨d,hd,hkd⟩:=(hT.facts hty).desc;rw[hk]at hkd;obtain⟨fds,rfl,hfs⟩:=tC hkd;obtain⟨f,hf1,hf2,hf3⟩:=IJ hfs hf;have hu:=he.opnd hp;obtain⟨xs,hu,h2⟩:=hu;obtain⟨y,h3,h4⟩:=zQ (hT.facts hft) h h2;refine bN.mk hx ?_ h4;rw[hu];simp[Instr.field,run_underlying hd,hf1,asAgg,hf2,hf3,h3]};simp_all};simp_all};simp_all};simp_all
theorem aCk(hT:TOk P T)(he:cG c e a){t:TypeId}{p q:Operand}(ho:o.op=.index t p q)(h:aL T e c.H (.index t p q)=some x):bN P c a o x:=by simp[aL]at h;(have hx:execOp a.eval o=(do pure (.value (<-Instr.index t (a.eval p) (a.eval q)))):=by simp[execOp,ho]);split at h;{rename_i ty u k n hty hp hq;obtain⟨d,hd,hkd⟩:=(hT.facts hty).desc;have hu:=he.opnd hp;have hv:=he.opnd hq;split at h;{rename_i len el hk;rw[hk]at hkd;obtain rfl:=mQ hkd;split at h;{rename_i te cs hte;split at h;{rename_i hb;obtain⟨xs,hu,h2⟩:=hu;obtain⟨y,h3,h4⟩:=zQ (hT.facts hte) h h2;refine bN.mk hx ?_ h4;rw[hu,hv];simp[Instr.index,asIntOf,run_underlying hd,hb,(hT.facts hte).run_sizeOf,h3]};simp_all};simp_all};{rename_i hk;rw[hk]at hkd;obtain rfl:=vJ hkd;split at h;{rename_i s;split at h;{rename_i hb;cases hs:s[n.toNat]? with|none=>simp_all|some b=>simp[hs,Option.map_some,Option.some.injEq]at h;subst h;refine bN.mk hx ?_ (by rw[R]);rw[hu,hv];simp[Instr.index,asIntOf,run_underlying hd,hb,hs]};simp_all};simp_all};simp_all};simp_all
theorem FS(hT:TOk P T)(he:cG c e a){t:TypeId}{p q:Operand}(ho:o.op=.indexAddr t p q)(h:aL T e c.H (.indexAddr t p q)=some x):bN P c a o x:=by simp only[aL]at h;(have hx:execOp a.eval o=(do pure (.value (<-Instr.indexAt t (a.eval p) (a.eval q))):Sem Next):=by simp only[execOp,ho]);split at h;{rename_i ty u k n hty hp hq;obtain⟨d,hd,hkd⟩:=(hT.facts hty).desc;have hu:=he.opnd hp;have hv:=he.opnd hq;simp only[R]at hv;split at h;{rename_i el hk;rw[hk]at hkd;obtain rfl:=kA hkd;split at h;{rename_i te hte;have hs:=(hT.facts hte).run_sizeOf c.w;split at h;{rename_i b off len sz;split at h;{rename_i hb;obtain rfl:=Option.some.inj h;simp only[R]at hu;obtain⟨g,cap,cur,e',fz,hg,hu,-,-,hcl,-⟩:=hu;have hsh:∃cur e fz,c.w.heap[g]?=some (.cells cur e fz):=⟨cur,e',fz,hcl⟩;refine bN.mk hx (y:=.pointer (some ⟨g,off+n.toNat*te.size,none⟩)) ?_ (by rw[R];exact⟨g,hg,rfl,hsh⟩);rw[hu,hv];simp[Instr.indexAt,asIntOf,run_underlying hd,hb.1,hb.2.1,hs,Addr.add_lit]};simp_all};{rename_i len cs;split at h;{rename_i hb;obtain rfl:=Option.some.inj h;simp only[R]at hu;rcases hu with⟨hu,-⟩|⟨g,off,cap,xs,hu,-,h2,h3,h4,h5⟩;{omega};{refine bN.mk hx (y:=.pointer (some ⟨g,off+n.toNat*te.size,none⟩)) ?_ (by rw[R];exact⟨g,_,xs.drop (n.toNat*te.size),rfl,h2,h3,h4.drop _,h5.drop _⟩);rw[hu,hv];simp[Instr.indexAt,asIntOf,run_underlying hd,hb.1,hb.2,hs,Addr.add_lit]}};simp_all};simp_all};simp_all};{rename_i len el hk;rw[hk]at hkd;obtain rfl:=mQ hkd;split at h;{rename_i te hte;have hs:=(hT.facts hte).run_sizeOf c.w;split at h;{rename_i hb;split at h;{rename_i b off;obtain rfl:=Option.some.inj h;simp only[R]at hu;obtain⟨g,hg,hu,hsh⟩:=hu;refine bN.mk hx (y:=.pointer (some ⟨g,off+n.toNat*te.size,none⟩)) ?_ (by rw[R];simp_all);rw[hu,hv];simp[Instr.indexAt,asIntOf,run_underlying hd,Instr.sureAddr,hb.1,hb.2,hs,Addr.add_lit]};{rename_i g off;obtain rfl:=Option.some.inj h;simp only[R]at hu;refine bN.mk hx (y:=.pointer (some ⟨g,off+n.toNat*te.size,none⟩)) ?_ (by rw[R]);rw[hu,hv];simp[Instr.indexAt,asIntOf,run_underlying hd,Instr.sureAddr,hb.1,hb.2,hs,Addr.add_lit]};{rename_i cs;obtain rfl:=Option.some.inj h;simp only[R]at hu;obtain⟨g,o1,xs,hu,h2,h3,h4,h5⟩:=hu;refine bN.mk hx (y:=.pointer (some ⟨g,o1+n.toNat*te.size,none⟩)) ?_ (by rw[R];exact⟨g,_,xs.drop (n.toNat*te.size),rfl,h2,h3,h4.drop _,h5.drop _⟩);rw[hu,hv];simp[Instr.indexAt,asIntOf,run_underlying hd,Instr.sureAddr,hb.1,hb.2,hs,Addr.add_lit]};simp_all};simp_all};simp_all};simp_all};simp_all
end
variable{P:Program}{T:Tb}
section
variable{c:Cfg}{e:Env}{a:Act}{o:Oper}{x:A}
theorem ZT(he:cG c e a){p:Option Operand}{u:Option A}(h:mG e p=some u):(u=none/\p.map a.eval=none)\/∃z y,u=some z/\p.map a.eval=some y/\R c.ρ c.own c.w z y:=by cases p with|none=>simp[mG]at h;simp_all|some p=>right;unfold mG at h;cases hp:opnd e p with|none=>simp_all|some z=>simp[hp,Option.map_some]at h;exact⟨z,a.eval p,h.symm,rfl,he.opnd hp⟩
theorem SV(he:cG c e a){p:Option Operand}{u:Option A}(h:mG e p=some u){n d i:Nat}(hb:bnd n u d=some i)(hd:d<=n)(code:BoundsCode)(N:Nat)(hN:n<=N):i<=n/\(match p.map a.eval with|some v=>Instr.sliceBound v N code|none=>pure d).run P c.w=.ok i c.w:=by rcases ZT he h with⟨rfl,h2⟩|⟨z,y,rfl,h2,hr⟩;{simp[bnd]at hb;simp_all};{unfold bnd at hb;split at hb;{simp_all};{rename_i k j hz;obtain rfl:=Option.some.inj hz;split at hb;{rename_i hj;obtain rfl:=Option.some.inj hb;subst hr;rw[h2];exact⟨by omega,run_sliceBound c.w k j N code hj.1 (by omega)⟩};simp_all};simp_all}
theorem NK{n i j:Nat}{u v:Option A}(h:GV n u v=some (i,j)):bnd n v n=some j/\bnd j u 0=some i:=by unfold GV at h;grind
theorem lP(he:cG c e a){p q:Option Operand}{u v:Option A}(hp:mG e p=some u)(hq:mG e q=some v){n i j:Nat}(h:GV n u v=some (i,j))(s:Bool)(N:Nat)(hN:n<=N):i<=j/\j<=n/\(Instr.sliceBounds s n N (p.map a.eval) (q.map a.eval) none).run P c.w=.ok (i,j,N) c.w:=by obtain⟨h1,h2⟩:=NK h;obtain⟨hj,hr1⟩:=SV (P:=P) he hq h1 (Nat.le_refl _) (if s then .sliceAcap else .sliceAlen) N hN;obtain⟨hi,hr2⟩:=SV (P:=P) he hp h2 (Nat.zero_le _) .sliceB j (Nat.le_refl _);cases hp':p.map a.eval<;>cases hq':q.map a.eval<;>simp[hp']at hr1 hr2<;>simp[Instr.sliceBounds]<;>simp_all
theorem aCm(hT:TOk P T)(ok:Ok T.gl c)(he:cG c e a){t:TypeId}{p:Operand}{lo hi mx:Option Operand}(ho:o.op=.slice t p lo hi mx)(h:aL T e c.H (.slice t p lo hi mx)=some x):bN P c a o x:=by simp only[aL]at h;(have hx:execOp a.eval o=(do pure (.value (<-Instr.sliceAt t (a.eval p) (lo.map a.eval) (hi.map a.eval) (mx.map a.eval))):Sem Next):=by simp only[execOp,ho]);split at h;{rename_i ty u l hh hty hp hlo hhi;obtain⟨d,hd,hkd⟩:=(hT.facts hty).desc;have hu:=he.opnd hp;split at h;{rename_i hk;rw[hk]at hkd;obtain rfl:=vJ hkd;split at h;{rename_i s;split at h;{rename_i i j hb;obtain rfl:=Option.some.inj h;simp only[R]at hu;obtain⟨h1,h2,h3⟩:=lP (P:=P) he hlo hhi hb false s.size (Nat.le_refl _);refine bN.mk hx (y:=.string (s.extract i j)) ?_ (by rw[R]);rw[hu];simp[Instr.sliceAt,Instr.slice,run_underlying hd,h3]};{cases h}};{cases h}};{rename_i el hk;rw[hk]at hkd;obtain rfl:=kA hkd;split at h;{rename_i te hte;have hs:=(hT.facts hte).run_sizeOf c.w;split at h;{rename_i b off len sz;split at h;{rename_i i j hb;split at h;{rename_i hsz;subst hsz;simp only[R]at hu;obtain⟨g,cap,cur,e',fz,hg,hu,h5,h6,h7,h8⟩:=hu;obtain⟨h1,h2,h3⟩:=lP (P:=P) he hlo hhi hb true cap h5;(have hrun:(Instr.sliceAt t (a.eval p) (lo.map a.eval) (hi.map a.eval) (Option.map a.eval none)).run P c.w=.ok (.slice (if cap=i then some ⟨g,off,none⟩else some (Addr.add ⟨g,off,none⟩ (i*te.size))) (j-i) (cap-i)) c.w:=by rw[hu];simp[Instr.sliceAt,Instr.slice,run_underlying hd,h3,hs]);split at h;{rename_i hi;obtain rfl:=Option.some.inj h;refine bN.mk hx hrun ?_;rw[if_neg (by omega),Addr.add_lit,R];refine⟨g,cap-i,cur,e',fz,hg,rfl,by omega,by omega,h7,?_⟩;rw[Nat.add_assoc,<-Nat.add_mul,Nat.add_sub_cancel' (by omega:i<=cap)];omega};{rename_i hi;obtain rfl:=Option.some.inj h;refine bN.mk hx hrun ?_;rw[R];left;(have:j-i=0:=by omega);rw[this];simp}};{cases h}};{cases h}};{rename_i len cs;split at h;{rename_i i j hb;split at h;{rename_i hcs;obtain rfl:=Option.some.inj h;simp only[R]at hu;rcases hu with⟨h4,h5,ad,cap,hu⟩|⟨g,off,cap,xs,hu,hcap,h4,h5,h6,h7⟩;{subst h4 h5;obtain⟨h1,h2,h3⟩:=lP (P:=P) he hlo hhi hb true cap (Nat.zero_le _);refine bN.mk hx (y:=.slice (if cap=i then ad else ad.map (·.add (i*te.size))) (j-i) (cap-i)) ?_ ?_;{rw[hu];simp[Instr.sliceAt,Instr.slice,run_underlying hd,h3,hs]};{rw[R];left;(have:j-i=0:=by omega);rw[this];exact⟨rfl,by simp,_,_,rfl⟩}};{{obtain⟨h1,h2,h3⟩:=lP (P:=P) he hlo hhi hb true cap hcap;(have hrun:(Instr.sliceAt t (a.eval p) (lo.map a.eval) (hi.map a.eval) (Option.map a.eval none)).run P c.w=.ok (.slice (if cap=i then some ⟨g,off,none⟩else some (Addr.add ⟨g,off,none⟩ (i*te.size))) (j-i) (cap-i)) c.w:=by rw[hu];simp[Instr.sliceAt,Instr.slice,run_underlying hd,h3,hs]);refine bN.mk hx hrun ?_;rw[R];by_cases hij:j-i=0;{left;rw[hij];exact⟨rfl,by simp,_,_,rfl⟩};{right;rw[if_neg (by omega),Addr.add_lit];exact⟨g,off+i*te.size,cap-i,(xs.drop (i*te.size)).take ((j-i)*te.size),rfl,by omega,h4,h5,(h6.drop _).take _,(h7.drop _).take _⟩}}}};{cases h}};{cases h}};{split at h;{rename_i ij hb;obtain rfl:=Option.some.inj h;simp only[R]at hu;obtain⟨h1,h2,h3⟩:=lP (P:=P) he hlo hhi hb true 0 (Nat.le_refl _);refine bN.mk hx (y:=.slice none 0 0) ?_ (by rw[R]);rw[hu];(have hj:ij.2=0:=by omega);(have hi:ij.1=0:=by omega);simp[Instr.sliceAt,Instr.slice,run_underlying hd,h3,hs,hi,hj]};{cases h}};{cases h}};{cases h}};{rename_i n el hk;rw[hk]at hkd;obtain rfl:=mQ hkd;split at h;{rename_i te i j hte hb;have hs:=(hT.facts hte).run_sizeOf c.w;obtain⟨h1,h2,h3⟩:=lP (P:=P) he hlo hhi hb false n (Nat.le_refl _);split at h;{rename_i cs;split at h;{rename_i hlen;obtain rfl:=Option.some.inj h;simp only[R]at hu;obtain⟨g,off,xs,hu,h4,h5,h6,h7⟩:=hu;(have hrun:(Instr.sliceAt t (a.eval p) (lo.map a.eval) (hi.map a.eval) (Option.map a.eval none)).run P c.w=.ok (.slice (some (if n=i then⟨g,off,none⟩else Addr.add ⟨g,off,none⟩ (i*te.size))) (j-i) (n-i)) c.w:=by rw[hu];simp[Instr.sliceAt,Instr.sureAddr,run_underlying hd,h3,hs]);refine bN.mk hx hrun ?_;rw[R];by_cases hij:j-i=0;{left;rw[hij];exact⟨rfl,by simp,_,_,rfl⟩};{right;rw[if_neg (by omega),Addr.add_lit];exact⟨g,off+i*te.size,n-i,(xs.drop (i*te.size)).take ((j-i)*te.size),rfl,by omega,h4,h5,(h6.drop _).take _,(h7.drop _).take _⟩}};{cases h}};{rename_i b off;split at h;{rename_i k hbk;split at h;{rename_i hc;simp only[Bool.and_eq_true,Nat.beq_eq,Nat.ble_eq]at hc;obtain⟨⟨hw,hsum⟩,hmax⟩:=hc;simp only[R]at hu;obtain⟨g,hg,hu,hsh⟩:=hu;obtain⟨cur,xs,hcur,-,-,-,hwh⟩:=ok.lies hbk hg hsh;(have hrun:(Instr.sliceAt t (a.eval p) (lo.map a.eval) (hi.map a.eval) (Option.map a.eval none)).run P c.w=.ok (.slice (some (if n=i then⟨g,off,none⟩else Addr.add ⟨g,off,none⟩ (i*te.size))) (j-i) (n-i)) c.w:=by rw[hu];simp[Instr.sliceAt,Instr.sureAddr,run_underlying hd,h3,hs]);split at h;{rename_i hi;obtain rfl:=Option.some.inj h;refine bN.mk hx hrun ?_;rw[if_neg (by omega),Addr.add_lit,R];refine⟨g,n-i,cur,k.e,(0,0),hg,rfl,by omega,by omega,hcur,?_⟩;rw[Nat.add_assoc,<-Nat.add_mul,Nat.add_sub_cancel' (by omega:i<=n),hwh hw];omega};{rename_i hi;obtain rfl:=Option.some.inj h;refine bN.mk hx hrun ?_;rw[R];left;(have:j-i=0:=by omega);rw[this];exact⟨rfl,rfl,_,_,rfl⟩}};{cases h}};{cases h}};{cases h}};{cases h}};{cases h}};{cases h}
end
variable{P:Program}{T:Tb}
theorem xG{ρ:List Nat}{own:Nat->Prop}{w:World}{a:A}{y:Value}(h:R ρ own w a y):RL ρ own w (gG a) y.cells.toList:=by cases a with|agg cs=>simp only[R]at h;obtain⟨xs,rfl,h2⟩:=h;simpa[gG,Value.cells]using h2|v x=>(simp only[R]at h;subst h;cases y<;>first|(simp only[gG,Value.cells];exact RL.cons (by rw[R]) RL.nil)|(simp only[gG,Value.cells];exact RL.exact _))|tup vs=>have h':=h;simp only[R]at h;obtain⟨xs,rfl,h2⟩:=h;simp only[gG,Value.cells];exact RL.cons h' RL.nil|ptr b off=>have h':=h;simp only[R]at h;obtain⟨g,-,rfl,-⟩:=h;simp only[gG,Value.cells];exact RL.cons h' RL.nil|mp b=>have h':=h;simp only[R]at h;obtain⟨g,-,rfl,-⟩:=h;simp only[gG,Value.cells];exact RL.cons h' RL.nil|mf cs=>have h':=h;simp only[R]at h;rcases h with⟨-,rfl⟩|⟨g,es,n,rfl,-⟩;{simp only[gG,Value.cells];exact RL.cons h' RL.nil};{simp only[gG,Value.cells];exact RL.cons h' RL.nil}|ref b off len sz=>have h':=h;simp only[R]at h;obtain⟨g,cap,cur,e,fz,-,rfl,-⟩:=h;simp only[gG,Value.cells];exact RL.cons h' RL.nil|sl len cs=>have h':=h;simp only[R]at h;rcases h with⟨-,-,ad,cap,rfl⟩|⟨g,off,cap,xs,rfl,-⟩;{simp only[gG,Value.cells];exact RL.cons h' RL.nil};{simp only[gG,Value.cells];exact RL.cons h' RL.nil}|fp cs=>have h':=h;simp only[R]at h;obtain⟨g,off,xs,rfl,-⟩:=h;exact RL.cons h' RL.nil|clo f fs caps=>have h':=h;obtain⟨xs,ys,rfl,-⟩:=h;exact RL.cons h' RL.nil|yl b=>have h':=h;obtain⟨g,-,rfl,-⟩:=h;exact RL.cons h' RL.nil|lrec nt ps sl a b=>rw[R]at h;simp_all|it b=>have h':=h;obtain⟨g,-,rfl,-⟩:=h;exact RL.cons h' RL.nil|its s p=>rw[R]at h;simp_all
theorem rC:∀(vs:List Value) (k off:Nat) (cs:Array Value),off+k+vs.length<=cs.size->((vs.zipIdx k).foldl (fun(cs) p=>cs.setIfInBounds (off+p.2) p.1) cs).toList=cs.toList.take (off+k)++vs++cs.toList.drop (off+k+vs.length)|[],k,off,cs,_=>by simp|v::vs,k,off,cs,h=>by simp at h;rw[List.zipIdx_cons,List.foldl_cons];rw[rC vs (k+1) off (cs.setIfInBounds (off+k) v) (by simp;omega)];have:=list_seg_step cs.toList (off+k) v vs (by omega);simp only[Array.toList_setIfInBounds];omega
theorem yW{ρ:List Nat}{own:Nat->Prop}{w:World}(place:Nat->Option (Nat×Nat)):∀(ps:List (Nat×A)) (vs:List (Nat×Value)) (cs:List A) (xs:List Value) (r:List A),nX place cs ps=some r->RL ρ own w cs xs->ps.map (·.1)=vs.map (·.1)->(∀(i:Nat) p v,ps[i]?=some p->vs[i]?=some v->R ρ own w p.2 v.2)->∃ys:List Value,Instr.fill place xs.toArray vs=some ys.toArray/\RL ρ own w r ys|[],[],cs,xs,r,h,hx,_,_=>by simp[nX]at h;subst h;exact⟨xs,by simp[Instr.fill],hx⟩|[],_::_,_,_,_,_,_,hm,_=>by simp_all|_::_,[],_,_,_,_,_,hm,_=>by simp_all|(i,z)::ps,(j,v)::vs,cs,xs,r,h,hx,hm,hr=>by simp only[List.map_cons,List.cons.injEq]at hm;obtain⟨rfl,hm⟩:=hm;unfold nX at h;cases hp:place i with|none=>simp_all|some os=>obtain⟨off,size⟩:=os;simp only[hp]at h;split at h;{rename_i hc;have hz:=xG (hr 0 (i,z) (i,v) rfl rfl);(have hlen:v.cells.size=size:=by have:=hz.length;simp_all);have hxl:=hx.length;have hx':RL ρ own w (cs.take off++gG z++cs.drop (off+size)) (xs.take off++v.cells.toList++xs.drop (off+size)):=((hx.take off).append hz).append (hx.drop _);obtain⟨ys,h1,h2⟩:=yW place ps vs _ _ r h hx' hm (fun k p v hp hv=>hr (k+1) p v (by simp_all) (by simp_all));refine⟨ys,?_,h2⟩;(have hsz:(decide (v.cells.size≠size)||decide (off+v.cells.size>xs.toArray.size))=false:=by simp_all);simp only[Instr.fill,hp,hsz,Bool.false_eq_true,if_false];rw[<-h1];congr 1;apply Array.ext';rw[<-Array.foldl_toList,Array.toList_zipIdx];rw[rC v.cells.toList 0 off xs.toArray (by simp;omega)];simp_all};simp_all
section
variable{c:Cfg}{e:Env}{a:Act}{o:Oper}{x:A}
theorem xQ(he:cG c e a):∀{l:List (Nat×Operand)}{ps:List (Nat×A)},nE e l=some ps->ps.map (·.1)=(l.map fun p=>(p.1,a.eval p.2)).map (·.1)/\∀(i:Nat) p v,ps[i]?=some p->(l.map fun p=>(p.1,a.eval p.2))[i]?=some v->R c.ρ c.own c.w p.2 v.2|[],ps,h=>by simp[nE]at h;simp_all|(i,q)::l,ps,h=>by unfold nE at h;cases h1:opnd e q with|none=>simp_all|some z=>cases h2:nE e l with|none=>simp_all|some ps'=>simp[h1,h2]at h;subst h;obtain⟨h3,h4⟩:=xQ he h2;refine⟨by simp_all,fun k p v hp hv=>?_⟩;cases k with|zero=>simp at hp hv;subst hp hv;exact he.opnd h1|succ k=>grind
theorem tA{t:TypeId}{ty:Ty}(F:i9 P t ty):∃i z,P.info? t=some i/\i.size=ty.size/\i.zero=some z/\z.cells=ty.zero.toArray:=by obtain⟨i,z,h1,h2,h3,h4,h5⟩:=F.info;obtain⟨z',h6,h7,-⟩:=F.zero (default);simp[zeroValue,typeInfo,h1,h4]at h6;grind
theorem DX(hT:TOk P T):∀(fds:List Field) (l:List (Nat×Nat)),mW T (fds.map fun f=>(f.type,f.offset,f.name !="_"))=some l->fds.mapM (fun f=>(P.info? f.type).map fun i=>(f.offset,i.size))=some l|[],l,h=>by simp[mW]at h;simp_all|f::fds,l,h=>by unfold mW at h;cases h1:T f.type with|none=>simp_all|some ty=>cases h2:mW T (fds.map fun f=>(f.type,f.offset,f.name !="_"))with|none=>simp_all|some l'=>simp[h1,h2]at h;subst h;obtain⟨i,z,h3,h4,-⟩:=tA (hT.facts h1);simp[h3,h4,DX hT fds l' h2]
theorem X3(hT:TOk P T)(he:cG c e a){t:TypeId}{ps:Array (Nat×Operand)}(ho:o.op=.build t ps)(h:aL T e c.H (.build t ps)=some x):bN P c a o x:=by simp only[aL]at h;(have hx:execOp a.eval o=(do pure (.value (<-Instr.build t (ps.map fun(i,x)=>(i,a.eval x)))):Sem Next):=by simp only[execOp,ho]);split at h;{rename_i ty qs hty hq;obtain⟨h1,h2⟩:=xQ he hq;obtain⟨i,z,hi,his,hz,hzc⟩:=tA (hT.facts hty);obtain⟨d,hd,hkd⟩:=(hT.facts hty).desc;have hzero:RL c.ρ c.own c.w (ty.zero.map .v) ty.zero:=RL.exact _;(have hlist:(ps.map fun(i,x)=>(i,a.eval x)).toList=ps.toList.map fun p=>(p.1,a.eval p.2):=by simp);split at h;{rename_i fs hk;rw[hk]at hkd;obtain⟨fds,rfl,hfs⟩:=tC hkd;split at h;{rename_i l hl;cases hf:nX (fun i=>l[i]?) (ty.zero.map .v) qs with|none=>simp_all|some r=>simp only[hf,Option.map_some,Option.some.injEq]at h;subst h;obtain⟨ys,h3,h4⟩:=yW (fun i=>l[i]?) qs _ _ _ r hf hzero h1 h2;refine bN.mk hx (y:=.agg ys.toArray) (run_build c.w t _ ys.toArray ?_) (by rw[R];exact⟨ys,rfl,h4⟩);rw[hlist];subst hfs;have:=DX hT fds.toList l hl;simp only[Program.built,hi,hd,hz,this,hzc];rw[<-h3];simp};simp_all};{rename_i n el hk;rw[hk]at hkd;obtain rfl:=mQ hkd;split at h;{rename_i te hte;obtain⟨ie,ze,hie,hies,-⟩:=tA (hT.facts hte);cases hf:nX (fun i=>some (i*te.size,te.size)) (ty.zero.map .v) qs with|none=>simp[hf]at h|some r=>simp only[hf,Option.map_some,Option.some.injEq]at h;subst h;obtain⟨ys,h3,h4⟩:=yW _ qs _ _ _ r hf hzero h1 h2;refine bN.mk hx (y:=.agg ys.toArray) (run_build c.w t _ ys.toArray ?_) (by rw[R];exact⟨ys,rfl,h4⟩);rw[hlist];simp only[Program.built,hi,hd,hz,hie,hies,hzc];omega};{cases h}};simp_all};simp_all
theorem FE(mx:Bool){ρ:List Nat}{own:Nat->Prop}{w:World}:∀(l:List A) (x r:A) (y:Value) (ys:List Value),aL.minA mx x l=some r->R ρ own w x y->RL ρ own w l ys->∃z,(ys.foldlM (if mx then Builtin.max2 else Builtin.min2) y).run P w=.ok z w/\R ρ own w r z|[],x,r,y,ys,h,hx,hl=>by rw[RL]at hl;simp[aL.minA]at h;simp_all|u::l,x,r,y,ys,h,hx,hl=>by obtain⟨v,vs,rfl,h1,h2⟩:=hl;unfold aL.minA at h;split at h;{subst hx h1;obtain⟨z,h3,h4⟩:=FE mx l _ r _ vs h (by rw[R]) h2;refine⟨z,?_,h4⟩;cases mx;{simpa[Builtin.min2]using h3};{simpa[Builtin.max2]using h3}};simp_all
theorem aDN(hT:TOk P T)(he:cG c e a){cl:Call}(ho:o.op=.call cl)(h:aL T e c.H (.call cl)=some x):bN P c a o x:=by simp only[aL]at h;split at h;{rename_i hc;(have hx:execOp a.eval o=(do pure (.value (<-Builtin.len_ cl.argTypes o.type (cl.args.map a.eval))):Sem Next):=by simp[execOp,ho,resolve,hc,invoke,builtin]);split at h;{rename_i u ty hu hty;cases ht:cl.argTypes[0]? with|none=>simp[ht]at hty|some t=>simp only[ht,Option.bind_some]at hty;obtain⟨d,hd,hkd⟩:=(hT.facts hty).desc;obtain⟨y,hy,hr⟩:=(he.opnds hu).single;(have hargs:(cl.args.map a.eval)[0]?=some y:=by(have:(cl.args.map a.eval).toList[0]?=some y:=by simp[hy]);simpa using this);(have hrun:∀z,(match d,y with|.string,.string s=>pure (goInt s.size)|.array n _,_=>pure (goInt n)|.slice _,.slice _ n _=>pure (goInt n)|_,_=>stuck "":Sem Value).run P c.w=.ok z c.w->(Builtin.len_ cl.argTypes o.type (cl.args.map a.eval)).run P c.w=.ok z c.w:=by intro z hz;unfold Builtin.len_;simp only[ht,hargs,Sem.run_bind,run_underlying hd,Result.andThen_ok];cases d<;>cases y<;>first|(simp at hz;done)|omega);split at h;{rename_i hk;rw[hk]at hkd;obtain rfl:=vJ hkd;split at h;{obtain rfl:=Option.some.inj h;simp only[R]at hr;subst hr;exact bN.mk hx (hrun _ rfl) (by rw[R];rfl)};{cases h}};{rename_i n el hk;obtain rfl:=Option.some.inj h;rw[hk]at hkd;obtain rfl:=mQ hkd;exact bN.mk hx (hrun (goInt n) (by simp)) (by rw[R];rfl)};{rename_i el hk;rw[hk]at hkd;obtain rfl:=kA hkd;split at h;{obtain rfl:=Option.some.inj h;simp only[R]at hr;obtain⟨g,cap,cur,e',fz,-,rfl,-⟩:=hr;exact bN.mk hx (hrun _ rfl) (by rw[R];rfl)};{obtain rfl:=Option.some.inj h;simp only[R]at hr;rcases hr with⟨rfl,-,ad,cap,rfl⟩|⟨g,off,cap,xs,rfl,-⟩;{exact bN.mk hx (hrun _ rfl) (by rw[R];rfl)};{exact bN.mk hx (hrun _ rfl) (by rw[R];rfl)}};{obtain rfl:=Option.some.inj h;simp only[R]at hr;subst hr;exact bN.mk hx (hrun _ rfl) (by rw[R];rfl)};{cases h}};{cases h}};{cases h}};{rename_i hc;(have hx:execOp a.eval o=(do pure (.value (<-Builtin.min_ cl.argTypes o.type (cl.args.map a.eval))):Sem Next):=by simp[execOp,ho,resolve,hc,invoke,builtin]);split at h;{rename_i u l hu;have hl:=he.opnds hu;rw[RL]at hl;obtain⟨y,ys,hy,h1,h2⟩:=hl;obtain⟨z,h3,h4⟩:=FE (P:=P) false l u x y ys h h1 h2;refine bN.mk hx (y:=z) ?_ h4;(have:(cl.args.map a.eval).toList=y::ys:=by simpa using hy);unfold Builtin.min_;rw[this];simpa using h3};{cases h}};{rename_i hc;(have hx:execOp a.eval o=(do pure (.value (<-Builtin.cap_ cl.argTypes o.type (cl.args.map a.eval))):Sem Next):=by simp[execOp,ho,resolve,hc,invoke,builtin]);split at h;{rename_i l0 n0 ty hu hty;cases ht:cl.argTypes[0]? with|none=>simp[ht]at hty|some t=>simp only[ht,Option.bind_some]at hty;obtain⟨d,hd,hkd⟩:=(hT.facts hty).desc;obtain⟨y,hy,hr⟩:=(he.opnds hu).single;rw[R]at hr;subst hr;(have hargs:(cl.args.map a.eval)[0]?=some (.slice none l0 n0):=by(have:(cl.args.map a.eval).toList[0]?=some (.slice none l0 n0):=by simp[hy]);simpa using this);split at h;{rename_i el hk;rw[hk]at hkd;obtain rfl:=kA hkd;obtain rfl:=Option.some.inj h;refine bN.mk hx (y:=.int .i64 n0) ?_ (by rw[R]);unfold Builtin.cap_;simp only[ht,hargs,Sem.run_bind,run_underlying hd,Result.andThen_ok,Sem.run_pure];rfl};{cases h}};{cases h}};{rename_i hc;(have hx:execOp a.eval o=(do pure (.value (<-Builtin.unsafeSliceData_ cl.argTypes o.type (cl.args.map a.eval))):Sem Next):=by simp[execOp,ho,resolve,hc,invoke,builtin]);split at h;{rename_i l0 n0 hu;have hl:=he.opnds hu;rw[RL]at hl;obtain⟨y,ys,hy,h1,h2⟩:=hl;rw[RL]at h2;subst h2;rw[R]at h1;subst h1;obtain rfl:=Option.some.inj h;(have hargs:cl.args.map a.eval=#[.slice none l0 n0]:=by apply Array.ext';simpa using hy);rw[hargs]at hx;exact bN.mk hx (y:=.pointer none) rfl (by rw[R])};{rename_i b0 off0 n0 s0 hu;have hl:=he.opnds hu;rw[RL]at hl;obtain⟨y,ys,hy,h1,h2⟩:=hl;rw[RL]at h2;subst h2;rw[R]at h1;obtain⟨g,cap,cur,e',fz,hg,rfl,hn,-,hcl,-⟩:=h1;obtain rfl:=Option.some.inj h;(have hargs:cl.args.map a.eval=#[.slice (some ⟨g,off0,none⟩) (n0+1) cap]:=by apply Array.ext';simpa using hy);rw[hargs]at hx;exact bN.mk hx (y:=.pointer (some ⟨g,off0,none⟩)) (Lib.run_unsafeSliceData_row c.w _ _ _ _ _ (by omega)) (by rw[R];exact⟨g,hg,rfl,cur,e',fz,hcl⟩)};{cases h}};{rename_i hc;(have hx:execOp a.eval o=(do pure (.value (<-Builtin.max_ cl.argTypes o.type (cl.args.map a.eval))):Sem Next):=by simp[execOp,ho,resolve,hc,invoke,builtin]);split at h;{rename_i u l hu;have hl:=he.opnds hu;rw[RL]at hl;obtain⟨y,ys,hy,h1,h2⟩:=hl;obtain⟨z,h3,h4⟩:=FE (P:=P) true l u x y ys h h1 h2;refine bN.mk hx (y:=z) ?_ h4;(have:(cl.args.map a.eval).toList=y::ys:=by simpa using hy);unfold Builtin.max_;rw[this];simpa using h3};{cases h}};{cases h}
theorem EJ{d:TypeDesc}{k e:TypeId}(h:kOf d=.map k e):d=.map k e:=by cases d<;>first|(simp only[kOf]at h;simp_all)|simp_all
theorem aAC{a b:ByteArray}(h:(a==b)=true):a=b:=by cases a with|mk a=>cases b with|mk b=>have:(a==b)=true:=h;simp_all
theorem LK {d:TypeDesc}{kd:K}(hd:kOf d=kd){x y:Value}(hx:fT kd x=true) (hy:fT kd y=true):Instr.sameNow d x y=some (gK x y)/\(gK x y=true->x=y):=by subst hd;cases d<;>cases x<;>first|(simp[kOf,fT]at hx;done)|(cases y<;>first|(simp[kOf,fT]at hy;done)|(simp[kOf,fT]at hx hy;subst hx;subst hy;refine⟨by simp[Instr.sameNow,gK],fun h=>?_⟩;have h:=eq_of_beq h;simp_all)|(refine⟨by simp[Instr.sameNow,gK],fun h=>?_⟩;have h:=eq_of_beq h;simp_all)|exact⟨rfl,fun h=>congrArg Value.string (aAC h)⟩)
theorem rI{t:TypeId}{d:TypeDesc}(hd:P.underlying t=some d){kd:K}(hk:kOf d=kd){x:Value}(hx:fT kd x=true)(b:Bool)(w:World)(n:Nat):(Instr.checkKey b (n+1) t x).run P w=.ok () w:=by subst hk;unfold Instr.checkKey;simp[run_underlying hd];cases d<;>cases x<;>first|(simp[kOf,fT]at hx;done)|rfl
theorem nC(e0:MapEntry)(es:List MapEntry):gL (e0::es)=e0.key::e0.val::gL es:=by simp[gL]
theorem AP{d:TypeDesc}{kd:K}(hd:kOf d=kd){key:Value}(hk:fT kd key=true){ρ:List Nat}{own:Nat->Prop}{w:World}:∀(es:List MapEntry) (cs:List A) (i:Nat) (r:Option (Nat×A)),lA kd key cs i=some r->RL ρ own w cs (gL es)->(r=none/\Instr.findNow d key es i=some none)\/∃k a e,r=some (i+k,a)/\Instr.findNow d key es i=some (some (i+k,e.val))/\es[k]?=some e/\R ρ own w a e.val/\e.key=key:=by intro es;induction es with|nil=>(intro cs i r h hr;have hl:=hr.length;cases cs with|nil=>simp only[lA,Option.some.injEq]at h;exact .inl ⟨h.symm,rfl⟩|cons _ _=>simp[gL]at hl)|cons e0 es ih=>intro cs i r h hr;rw[nC]at hr;cases cs with|nil=>rw[RL]at hr;cases hr|cons z cs=>cases cs with|nil=>have hl:=hr.length;simp_all|cons a0 cs=>rw[RL]at hr;obtain⟨_,_,h0,h1,hr⟩:=hr;injection h0 with h01 h02;subst h01;subst h02;rw[RL]at hr;obtain⟨_,_,h0,h2,hr⟩:=hr;injection h0 with h01 h02;subst h01;subst h02;cases z with|v z=>rw[R]at h1;unfold lA at h;split at h;{rename_i hz;obtain⟨h3,h4⟩:=LK hd hk hz;rw[<-h1]at h3 h4;split at h;{rename_i hs;simp only[Option.some.injEq]at h;subst h;rw[<-h1]at hs;rw[hs]at h3;refine .inr ⟨0,a0,e0,rfl,?_,rfl,h2,(h4 hs).symm⟩;simp[Instr.findNow,h3]};{rename_i hs;rw[<-h1]at hs;simp only[Bool.not_eq_true]at hs;rw[hs]at h3;rcases ih cs (i+1) r h hr with⟨k1,k2⟩|⟨k,a,e,k1,k2,k3,k4⟩;{exact .inl ⟨k1,by simp[Instr.findNow,h3,k2]⟩};{refine .inr ⟨k+1,a,e,by rw[k1];congr 2;omega,?_,by simp_all,k4⟩;simp only[Instr.findNow,h3,k2];congr 3;omega}}};simp_all|_=>simp[lA]at h
theorem nU{t:TypeId}{d:TypeDesc}(hd:P.underlying t=some d){key:Value}{es:List MapEntry}{r:Option (Nat×Value)}(h:Instr.findNow d key es 0=some r)(w:World):(Instr.findKey t key es).run P w=.ok r w:=by simp[Instr.findKey,run_underlying hd,h]
theorem IQ(ok:Ok T.gl c){m:A}{y:Value}{cs:List A}(h:d9 c.H m=some cs)(hr:R c.ρ c.own c.w m y):(cs=[]/\y=.map none)\/∃g es n,y=.map (some g)/\c.w.heap[g]?=some (.map es n)/\RL c.ρ c.own c.w cs (gL es.toList):=by unfold d9 at h;split at h;{simp at h;subst h;rcases hr with⟨rfl,rfl⟩|⟨g,es,n,rfl,-,-,h3,h4⟩;{simp};{exact .inr ⟨g,es,n,rfl,h3,h4.open_⟩}};{rw[R]at hr;simp_all};{split at h;{rename_i k hb;obtain⟨g,hg,rfl,es,n,hm⟩:=hr;rcases ok.blk _ k.e k.cs k.whole g hb hg with⟨cur,xs,h1,-⟩|⟨es',n',h1,h2,-⟩|⟨r',nt',ps',sl',a',b',rest',h1,-⟩|⟨s',p',h1,-⟩;{simp_all};{simp_all};{simp_all};simp_all};simp_all};simp_all
theorem HI{t:TypeId}{ty:Ty}(F:i9 P t ty){z:A}(h:C9 ty=some z)(w:World){ρ:List Nat}{own:Nat->Prop}{w0:World}:∃y,(zeroValue t).run P w=.ok y w/\R ρ own w0 z y:=by obtain⟨y,h1,h2,h3⟩:=F.zero w;refine⟨y,h1,?_⟩;unfold C9 at h;split at h;{rename_i ha;simp at h;subst h;rw[h3 ha];exact⟨ty.zero,rfl,RL.exact _⟩};{split at h;{simp at h;subst h;rw[R];obtain⟨i,zz,k1,k2,k3,k4,k5⟩:=F.info;simp[zeroValue,typeInfo,k1,k4]at h1;unfold xR at k5;grind};simp_all}
theorem QB{ρ:List Nat}{own:Nat->Prop}{w:World}:∀{cs:List A}{r ys:List Value},uX cs=some r->RL ρ own w cs ys->ys=r|[],r,ys,h,hr=>by rw[RL]at hr;simp[uX]at h;simp_all|c0::cs,r,ys,h,hr=>by obtain⟨y,zs,rfl,h1,h2⟩:=hr;unfold uX at h;split at h;{simp_all};{rename_i x l heq;injection heq with e1 e2;subst e1;subst e2;rw[Option.map_eq_some_iff]at h;obtain⟨r',h3,rfl⟩:=h;rw[h1,QB h3 h2]};simp_all
theorem PN{ρ:List Nat}{own:Nat->Prop}{w:World}{a:A}{x y:Value}(h:U1 a=some x)(hr:R ρ own w a y):y=x:=by cases a with|v z=>exact hr.trans (Option.some.inj h)|agg cs=>simp[U1]at h;obtain⟨r,h1,rfl⟩:=h;obtain⟨xs,rfl,h2⟩:=hr;rw[QB h1 h2]|_=>simp[U1]at h
theorem HE{k:IntKind}:∀{xs:List Value},oX k xs=true->∀(i:Nat) x,xs[i]?=some x->∃z,x=.int k z|[],_,i,x,h=>by simp_all|y::l,h,i,x,hx=>by unfold oX at h;split at h;{simp_all};{rename_i k' z l' heq;injection heq with e1 e2;subst e2;simp at h;obtain⟨rfl,h⟩:=h;cases i with|zero=>grind|succ i=>exact HE h i x (by simp_all)};simp_all
theorem nV(hT:TOk P T){kt:TypeId}{tk:Ty}(ht:T kt=some tk){x:Value}(h:lV T tk x=true)(b:Bool)(w:World):(Instr.checkKey b 10000 kt x).run P w=.ok () w:=by obtain⟨d,hd,hd1⟩:=(hT.facts ht).desc;unfold lV at h;simp only[Bool.or_eq_true]at h;rcases h with h|h;{exact rI hd hd1 h b w 9999};{split at h;{rename_i n el xs hk;split at h;{rename_i te hte;split at h;{rename_i k hk2;simp only[Bool.and_eq_true]at h;obtain⟨h1,h2,h3⟩:=h;have h1:=Nat.eq_of_beq_eq_true h1;have h2:=Nat.eq_of_beq_eq_true h2;rw[hk]at hd1;obtain rfl:=mQ hd1;obtain⟨d2,hd2,hd3⟩:=(hT.facts hte).desc;rw[Instr.checkKey];simp only[Sem.run_bind,run_underlying hd];simp;(have each:∀i∈List.range' 0 n,∃z,(part el xs (i*te.size)).run P w=.ok (.int k z) w:=by intro i hi;(have hi:i<n:=by simp_all);(have hix:i<xs.toList.length:=by simp_all);obtain⟨z,hz⟩:=HE h3 i xs.toList[i] (by simp);obtain⟨y,hy,hry⟩:=zQ (hT.facts hte) (w:=w) (ρ:=[]) (own:=fun _=>False) (off:=i*te.size) (cs:=xs.toList.map A.v) (x:=.v (.int k z)) (by unfold sO;rw[h1,if_pos (by simp;omega)];simp[K.agg,if_false];simp_all) (RL.exact _);rw[R]at hry;simp_all);generalize List.range' 0 n=is at each;induction is with|nil=>simp|cons j is ih=>obtain⟨z,hz⟩:=each j (by simp);have p2:=rI hd2 hd3 (x:=.int k z) (by rw[hk2];simp[fT]) b w 9998;simp[List.forIn_cons,Sem.run_bind,(hT.facts hte).run_sizeOf w,p2];simp_all};simp_all};simp_all};simp_all}
theorem ZD(hT:TOk P T){kt:TypeId}{tk:Ty}(ht:T kt=some tk)(hag:tk.k.agg=true){xs:List Value}{ρ:List Nat}{own:Nat->Prop}{w:World}:∀(es:List MapEntry) (cs:List A) (i:Nat) (r:Option (Nat×A)),uR T kt (xs.map .v) cs i=some r->RL ρ own w cs (gL es)->(r=none/\∀w',(Instr.findAsking kt (.agg xs.toArray) es i).run P w'=.ok none w')\/∃k a e,r=some (i+k,a)/\(∀w',(Instr.findAsking kt (.agg xs.toArray) es i).run P w'=.ok (some (i+k,e.val)) w')/\es[k]?=some e/\R ρ own w a e.val:=by intro es;induction es with|nil=>(intro cs i r h hr;have hl:=hr.length;cases cs with|nil=>simp only[uR,Option.some.injEq]at h;exact .inl ⟨h.symm,fun w'=>by simp[Instr.findAsking]⟩|cons _ _=>simp[gL]at hl)|cons e0 es ih=>intro cs i r h hr;rw[nC]at hr;cases cs with|nil=>rw[RL]at hr;cases hr|cons z cs=>cases cs with|nil=>have hl:=hr.length;simp_all|cons a0 cs=>rw[RL]at hr;obtain⟨_,_,h0,h1,hr⟩:=hr;injection h0 with h01 h02;subst h01;subst h02;rw[RL]at hr;obtain⟨_,_,h0,h2,hr⟩:=hr;injection h0 with h01 h02;subst h01;subst h02;cases z with|v z=>(cases z with|agg ys=>simp only[uR]at h;rw[R]at h1;(have heq:∀b,eqT T 20 kt (xs.map .v) (ys.toList.map .v)=some b->∀w',(Op.equal kt (.agg xs.toArray) e0.key).run P w'=.ok b w':=fun b hb w'=>by rw[h1];have:=aCR (w:=w') (ρ:=[]) (own:=fun _=>False) hT 20 Op.maxDepth kt tk (xs.map .v) (ys.toList.map .v) xs ys.toList (.agg xs.toArray) (.agg ys.toList.toArray) b (by decide) ht hb (RL.exact _) (RL.exact _) ⟨(fun _=>rfl),(fun h=>by simp_all)⟩ ⟨(fun _=>rfl),(fun h=>by simp_all)⟩;simpa[Op.equal]using this);split at h;{rename_i hb;simp only[Option.some.injEq]at h;subst h;refine .inr ⟨0,a0,e0,rfl,fun w'=>?_,rfl,h2⟩;simp[Instr.findAsking,heq _ hb]};{rename_i hb;rcases ih cs (i+1) r h hr with⟨k1,k2⟩|⟨k,a,e,k1,k2,k3,k4⟩;{exact .inl ⟨k1,fun w'=>by simp[Instr.findAsking,heq _ hb,k2]⟩};{refine .inr ⟨k+1,a,e,by rw[k1];congr 2;omega,fun w'=>?_,by simp_all,k4⟩;simp only[Instr.findAsking,Sem.run_bind,heq _ hb,Result.andThen_ok,k2,Bool.false_eq_true,if_false];congr 3;omega}};simp_all|_=>simp[uR]at h)|_=>simp[uR]at h
theorem v9(hT:TOk P T){kt:TypeId}{tk:Ty}(ht:T kt=some tk){key:Value}{ρ:List Nat}{own:Nat->Prop}{w:World}{es:List MapEntry}{cs:List A}{r:Option (Nat×A)}(h:KX T kt tk key cs=some r)(hr:RL ρ own w cs (gL es)):lV T tk key=true/\((r=none/\∀w',(Instr.findKey kt key es).run P w'=.ok none w')\/∃k a e,r=some (k,a)/\(∀w',(Instr.findKey kt key es).run P w'=.ok (some (k,e.val)) w')/\es[k]?=some e/\R ρ own w a e.val/\(fT tk.k key=true->e.key=key)):=by obtain⟨d,hd,hd1⟩:=(hT.facts ht).desc;unfold KX at h;cases hk:fT tk.k key with|true=>rw[hk]at h;refine⟨by simp[lV,hk],?_⟩;rcases AP hd1 hk es cs 0 r h hr with⟨h1,h2⟩|⟨k,a,e,h1,h2,h3,h4,h5⟩;{exact .inl ⟨h1,fun w'=>nU hd h2 w'⟩};{simp at h1 h2;exact .inr ⟨k,a,e,h1,fun w'=>nU hd h2 w',h3,h4,fun _=>h5⟩}|false=>rw[hk]at h;cases hko:lV T tk key with|false=>simp_all|true=>rw[hko]at h;refine⟨rfl,?_⟩;cases key with|agg xs=>(have hka:∃n el,tk.k=.array n el:=by simp[lV,hk]at hko;split at hko;{simp_all};simp_all);obtain⟨n,el,hka⟩:=hka;(have hkey:∀r',(∀w',(Instr.findAsking kt (.agg xs) es).run P w'=.ok r' w')->∀w',(Instr.findKey kt (.agg xs) es).run P w'=.ok r' w':=by intro r' hr' w';cases es with|nil=>have:=hr' w';simp only[Instr.findAsking,Sem.run_pure,Result.ok.injEq]at this;simp[Instr.findKey,run_underlying hd,Instr.findNow,this.1]|cons e0 es=>simp[Instr.findKey,run_underlying hd,Instr.findNow,Instr.sameNow,hr' w']);rcases ZD hT ht (by rw[hka];rfl) es cs 0 r h hr with⟨h1,h2⟩|⟨k,a,e,h1,h2,h3,h4⟩;{simp_all};{simp at h1 h2;exact .inr ⟨k,a,e,h1,hkey _ h2,h3,h4,fun hk'=>by simp_all⟩}|_=>simp_all
theorem WL(hT:TOk P T)(ok:Ok T.gl c)(he:cG c e a){t:TypeId}{m k:Operand}{okk:Bool}(ho:o.op=.lookup t m k okk)(h:aL T e c.H (.lookup t m k okk)=some x):bN P c a o x:=by simp only[aL]at h;(have hx:execOp a.eval o=(do pure (.value (<-Instr.lookup t (a.eval m) (a.eval k) okk)):Sem Next):=by simp only[execOp,ho]);split at h;{rename_i ty mv key hty hm hk;split at h;{rename_i kt et hkd;split at h;{rename_i tk te es htk hte hes;obtain⟨d,hd,hd1⟩:=(hT.facts hty).desc;rw[hkd]at hd1;obtain rfl:=EJ hd1;obtain⟨kv,hk1,hk2⟩:=Option.bind_eq_some_iff.1 hk;have hkr:=PN hk2 (he.opnd hk1);rw[hkr]at hx;(have hall:∃ees:Array MapEntry,RL c.ρ c.own c.w es (gL ees.toList)/\(lV T tk key=true->∀(r:Option (Nat×Value)),(∀w',(Instr.findKey kt key ees.toList).run P w'=.ok r w')->∀(v:Value) (bb:Bool),((match r with|some (_,v)=>pure (v,true)|none=>do pure (<-zeroValue et,false):Sem (Value×Bool))).run P c.w=.ok (v,bb) c.w->(Instr.lookup t (a.eval m) key okk).run P c.w=.ok (if okk then .tuple #[v,.bool bb]else v) c.w):=by(have fin:∀(r:Option (Nat×Value)) (v:Value) (bb:Bool) (rest:Sem Value),rest.run P c.w=(((match r with|some (_,v)=>pure (v,true)|none=>do pure (<-zeroValue et,false):Sem (Value×Bool))>>=fun p=>pure (if okk then .tuple #[p.1,.bool p.2]else p.1):Sem Value)).run P c.w->((match r with|some (_,v)=>pure (v,true)|none=>do pure (<-zeroValue et,false):Sem (Value×Bool))).run P c.w=.ok (v,bb) c.w->rest.run P c.w=.ok (if okk then .tuple #[v,.bool bb]else v) c.w:=by simp_all);rcases IQ ok hes (he.opnd hm)with⟨rfl,h1⟩|⟨g,ees,n,h1,h2,h3⟩;{refine⟨#[],RL.nil,fun hko r hf v bb hrun=>fin r v bb _ ?_ hrun⟩;have hchk:∀b w,(Instr.checkKey b 10000 kt key).run P w=.ok () w:=fun b w=>nV hT htk hko b w;rw[h1];simp only[Instr.lookup,Sem.run_bind,run_underlying hd,Result.andThen_ok,Sem.run_pure,hchk,hf];cases r with|none=>cases hz:Sem.run P (zeroValue et) c.w<;>simp[hz,Result.andThen]|some p=>simp};{refine⟨ees,h3,fun hko r hf v bb hrun=>fin r v bb _ ?_ hrun⟩;have hchk:∀b w,(Instr.checkKey b 10000 kt key).run P w=.ok () w:=fun b w=>nV hT htk hko b w;rw[h1];simp only[Instr.lookup,Sem.run_bind,run_underlying hd,Result.andThen_ok,Sem.run_pure,MapKept.run_getObj_map h2,hchk,hf];cases r with|none=>cases hz:Sem.run P (zeroValue et) c.w<;>simp[hz,Result.andThen]|some p=>simp});obtain⟨ees,hees,hrun⟩:=hall;split at h;{rename_i jj z hf;simp only[Option.some.injEq]at h;subst h;obtain⟨hko,hor⟩:=v9 hT htk hf hees;rcases hor with⟨h1,-⟩|⟨k1,a1,e1,h1,h2,h3,h4,-⟩;{cases h1};{simp only[Option.some.injEq,Prod.mk.injEq]at h1;obtain⟨rfl,rfl⟩:=h1;refine bN.mk hx (hrun hko _ h2 e1.val true (by simp)) ?_;cases okk;{exact h4};{simp only[if_true];rw[R];exact⟨[e1.val,.bool true],rfl,RL.cons h4 (RL.cons (by rw[R]) RL.nil)⟩}}};{rename_i hf;split at h;{rename_i z hz;simp only[Option.some.injEq]at h;subst h;obtain⟨hko,hor⟩:=v9 hT htk hf hees;rcases hor with⟨-,h2⟩|⟨k1,a1,e1,h1,-⟩;{obtain⟨y,hy,hyr⟩:=HI (hT.facts hte) hz c.w (ρ:=c.ρ) (own:=c.own) (w0:=c.w);refine bN.mk hx (hrun hko _ h2 y false (by simp_all)) ?_;cases okk;{simp_all};{simp only[if_true];rw[R];exact⟨[y,.bool false],rfl,RL.cons hyr (RL.cons (by rw[R]) RL.nil)⟩}};simp_all};simp_all};simp_all};simp_all};simp_all};simp_all
theorem HK(hT:TOk P T)(ok:Ok T.gl c)(he:cG c e a)(h:aL T e c.H o.op=some x):bN P c a o x:=by
 cases ho:o.op<;>rw[ho]at h
 case move y =>
  exact⟨a.eval y,by simp[execOp,ho],he.opnd h⟩
 case assign y =>
  exact⟨a.eval y,by simp[execOp,ho],he.opnd h⟩
 case pick=>exact aHi he ho h
 case load=>exact aH8 hT ok he ho h
 case nilCheck=>exact HL he ho h
 case binOp=>exact aCK hT he ho h
 case unOp=>exact aJc he ho h
 case convert=>exact LG hT ok he ho h
 case build=>exact X3 hT he ho h
 case fieldAddr=>exact HD hT he ho h
 case field=>exact YW hT he ho h
 case indexAddr=>exact FS hT he ho h
 case index=>exact aCk hT he ho h
 case slice=>exact aCm hT ok he ho h
 case extract=>exact MP he ho h
 case makeFunc=>exact HX he ho h
 case lookup=>exact WL hT ok he ho h
 case call=>exact aDN hT he ho h
 all_goals(simp[aL]at h)
end
variable{Gd:GD}
variable{P:Program}{T:Tb}
theorem wM{c:Cfg}(ok:Ok Gd c){e:TypeId}{cs:List A}{wh:Bool}{cur:Array Value}{xs:List Value}{w':World}(hw:w'=c.w.alloc (.cells cur e)\/w'=c.w.drew.alloc (.cells cur e))(hr:RL c.ρ c.own c.w cs xs)(hp:xs<+:cur.toList)(hwh:wh=true->cur.size=cs.length):∃c',c'.H=c.H++[some ⟨e,cs,wh⟩]/\c'.w=w'/\To c c'/\Ok Gd c'/\c'.ρ[c.H.length]?=some c.w.heap.size/\c'.w.heap[c.w.heap.size]?=some (.cells cur e):=by(have hheap:w'.heap=c.w.heap.push (.cells cur e):=by rcases hw with rfl|rfl<;>rfl);(have hold:∀g,g<c.w.heap.size->w'.heap[g]?=c.w.heap[g]?:=fun g hg=>by rw[hheap,Array.getElem?_push];simp[Nat.ne_of_lt hg]);(have hnew:w'.heap[c.w.heap.size]?=some (.cells cur e):=by simp_all);let c':Cfg:=⟨c.ρ++[c.w.heap.size],fun g=>c.own g\/g=c.w.heap.size,c.H++[some ⟨e,cs,wh⟩],w'⟩;have hlen:=ok.len;(have live:∀(b:Nat) (k:Blk) (g:Nat),c'.H[b]?=some (some k)->c'.ρ[b]?=some g->(c.H[b]?=some (some k)/\c.ρ[b]?=some g)\/(b=c.H.length/\k=⟨e,cs,wh⟩/\g=c.w.heap.size):=by intro b k g hb hg;rcases Nat.lt_or_ge b c.H.length with hlt|hge;{left;exact⟨by simpa[c',List.getElem?_append_left hlt]using hb,by simpa[c',List.getElem?_append_left (by omega:b<c.ρ.length)]using hg⟩};{right;(have hb':b=c.H.length:=by have:=(List.getElem?_eq_some_iff.1 hb).1;simp[c']at this;omega);subst hb';refine⟨rfl,?_,?_⟩;{simpa[c',eq_comm]using hb};{simp only[c']at hg;simp_all}});(have hto:To c c':=by refine⟨List.prefix_append _ _,by simp[c',hheap],by rcases hw with rfl|rfl<;>rfl,by rcases hw with rfl|rfl<;>rfl,by rcases hw with rfl|rfl<;>rfl,?_,fun g hg _=>hold g hg,fun g cur1 e1 fz1 h1=>⟨cur1,fz1,?_,rfl⟩,fun g es n h1=>⟨es,n,(hold g (Array.getElem?_eq_some_iff.1 h1).1).trans h1⟩,fun g o h1 _=>⟨o,(hold g (Array.getElem?_eq_some_iff.1 h1).1).trans h1,rfl⟩,?_⟩;{rintro g hg ⟨b,k,hb,hbg⟩;rcases live b k g hb hbg with⟨h1,h2⟩|⟨-,-,h3⟩;{exact⟨b,k,h1,h2⟩};omega};{have hg:=(Array.getElem?_eq_some_iff.1 h1).1;exact(hold g hg).trans h1};{intro g hg;simp only[c'];constructor;{rintro(h|h);{omega};omega};simp_all});refine⟨c',rfl,rfl,hto,?_,?_,hnew⟩;{refine⟨by simp[c',hlen],?_,?_,?_,?_,hto.glob ok⟩;{rintro g (h|h);{have:=ok.lt g h;simp[c',hheap];omega};{simp[c',hheap,h]}};{rintro g ⟨b,k,hb,hbg⟩;rcases live b k g hb hbg with⟨h1,h2⟩|⟨-,-,h3⟩;{exact .inl (ok.img g ⟨b,k,h1,h2⟩)};omega};{intro b e1 cs1 wh1 g hb hg;rcases live b _ g hb hg with⟨h1,h2⟩|⟨-,h2,h3⟩;{exact(ok.blk b e1 cs1 wh1 g h1 h2).keep (hto.keeps ok) (hold g (ok.lt g (ok.img g ⟨b,_,h1,h2⟩)))};{simp only[Blk.mk.injEq]at h2;obtain⟨rfl,rfl,rfl⟩:=h2;subst h3;exact .inl ⟨cur,xs,hnew,hr.to hto ok,hp,hwh⟩}};{intro b b' k k' g hb hb' hg hg';rcases live b k g hb hg with⟨h1,h2⟩|⟨h1,-,h3⟩<;>rcases live b' k' g hb' hg' with⟨h4,h5⟩|⟨h4,-,h6⟩;{exact ok.inj b b' k k' g h1 h4 h2 h5};{have:=ok.lt g (ok.img g ⟨b,k,h1,h2⟩);omega};{have:=ok.lt g (ok.img g ⟨b',k',h4,h5⟩);omega};omega}};{simp only[c'];rw[<-hlen];simp}
theorem aLp{c:Cfg}(ok:Ok Gd c){e:TypeId}{cs:List A}{wh:Bool}{es:Array MapEntry}{n:Nat}{w':World}(hw:w'=c.w.alloc (.map es n)\/w'=c.w.drew.alloc (.map es n))(hr:RL c.ρ c.own c.w cs (gL es.toList))(hbn:B0 es n):∃c',c'.H=c.H++[some ⟨e,cs,wh⟩]/\c'.w=w'/\To c c'/\Ok Gd c'/\c'.ρ[c.H.length]?=some c.w.heap.size/\c'.w.heap[c.w.heap.size]?=some (.map es n):=by(have hheap:w'.heap=c.w.heap.push (.map es n):=by rcases hw with rfl|rfl<;>rfl);(have hold:∀g,g<c.w.heap.size->w'.heap[g]?=c.w.heap[g]?:=fun g hg=>by rw[hheap,Array.getElem?_push];simp[Nat.ne_of_lt hg]);(have hnew:w'.heap[c.w.heap.size]?=some (.map es n):=by simp_all);let c':Cfg:=⟨c.ρ++[c.w.heap.size],fun g=>c.own g\/g=c.w.heap.size,c.H++[some ⟨e,cs,wh⟩],w'⟩;have hlen:=ok.len;(have live:∀(b:Nat) (k:Blk) (g:Nat),c'.H[b]?=some (some k)->c'.ρ[b]?=some g->(c.H[b]?=some (some k)/\c.ρ[b]?=some g)\/(b=c.H.length/\k=⟨e,cs,wh⟩/\g=c.w.heap.size):=by intro b k g hb hg;rcases Nat.lt_or_ge b c.H.length with hlt|hge;{left;exact⟨by simpa[c',List.getElem?_append_left hlt]using hb,by simpa[c',List.getElem?_append_left (by omega:b<c.ρ.length)]using hg⟩};{right;(have hb':b=c.H.length:=by have:=(List.getElem?_eq_some_iff.1 hb).1;simp[c']at this;omega);subst hb';refine⟨rfl,?_,?_⟩;{simpa[c',eq_comm]using hb};{simp only[c']at hg;simp_all}});(have hto:To c c':=by refine⟨List.prefix_append _ _,by simp[c',hheap],by rcases hw with rfl|rfl<;>rfl,by rcases hw with rfl|rfl<;>rfl,by rcases hw with rfl|rfl<;>rfl,?_,fun g hg _=>hold g hg,fun g cur1 e1 fz1 h1=>⟨cur1,fz1,?_,rfl⟩,fun g es1 n1 h1=>⟨es1,n1,(hold g (Array.getElem?_eq_some_iff.1 h1).1).trans h1⟩,fun g o h1 _=>⟨o,(hold g (Array.getElem?_eq_some_iff.1 h1).1).trans h1,rfl⟩,?_⟩;{rintro g hg ⟨b,k,hb,hbg⟩;rcases live b k g hb hbg with⟨h1,h2⟩|⟨-,-,h3⟩;{exact⟨b,k,h1,h2⟩};omega};{have hg:=(Array.getElem?_eq_some_iff.1 h1).1;exact(hold g hg).trans h1};{intro g hg;simp only[c'];constructor;{rintro(h|h);{omega};omega};simp_all});refine⟨c',rfl,rfl,hto,?_,?_,hnew⟩;{refine⟨by simp[c',hlen],?_,?_,?_,?_,hto.glob ok⟩;{rintro g (h|h);{have:=ok.lt g h;simp[c',hheap];omega};{simp[c',hheap,h]}};{rintro g ⟨b,k,hb,hbg⟩;rcases live b k g hb hbg with⟨h1,h2⟩|⟨-,-,h3⟩;{exact .inl (ok.img g ⟨b,k,h1,h2⟩)};omega};{intro b e1 cs1 wh1 g hb hg;rcases live b _ g hb hg with⟨h1,h2⟩|⟨-,h2,h3⟩;{exact(ok.blk b e1 cs1 wh1 g h1 h2).keep (hto.keeps ok) (hold g (ok.lt g (ok.img g ⟨b,_,h1,h2⟩)))};{simp only[Blk.mk.injEq]at h2;obtain⟨rfl,rfl,rfl⟩:=h2;subst h3;exact .inr (.inl ⟨es,n,hnew,hr.to hto ok,hbn⟩)}};{intro b b' k k' g hb hb' hg hg';rcases live b k g hb hg with⟨h1,h2⟩|⟨h1,-,h3⟩<;>rcases live b' k' g hb' hg' with⟨h4,h5⟩|⟨h4,-,h6⟩;{exact ok.inj b b' k k' g h1 h4 h2 h5};{have:=ok.lt g (ok.img g ⟨b,k,h1,h2⟩);omega};{have:=ok.lt g (ok.img g ⟨b',k',h4,h5⟩);omega};omega}};{simp only[c'];rw[<-hlen];simp}
theorem aAK{c:Cfg}(ok:Ok Gd c){b g:Nat}{k:Blk}{cs':List A}{cur cur':Array Value}{xs':List Value}(hb:c.H[b]?=some (some k))(hg:c.ρ[b]?=some g)(hcur:c.w.heap[g]?=some (.cells cur k.e (0,0))) (hr:RL c.ρ c.own c.w cs' xs') (hp:xs'<+:cur'.toList) (hs:cur'.size=cur.size) (hwh:k.whole=true->cur'.size=cs'.length):∃c',c'.H=c.H.set b (some ⟨k.e,cs',k.whole⟩)/\c'.w=c.w.setRow g cur'/\To c c'/\Ok Gd c'/\c'.ρ=c.ρ:=by let c':Cfg:=⟨c.ρ,c.own,c.H.set b (some ⟨k.e,cs',k.whole⟩),c.w.setRow g cur'⟩;have hbl:=(List.getElem?_eq_some_iff.1 hb).1;(have live:∀(b1:Nat) (k1:Blk) (g1:Nat),c'.H[b1]?=some (some k1)->c'.ρ[b1]?=some g1->(b1≠b/\c.H[b1]?=some (some k1)/\c.ρ[b1]?=some g1)\/(b1=b/\k1=⟨k.e,cs',k.whole⟩/\g1=g):=by intro b1 k1 g1 h1 h2;by_cases hbb:b1=b;{subst hbb;right;have h3:c.ρ[b1]?=some g1:=h2;rw[hg]at h3;simp only[c',List.getElem?_set_self hbl,Option.some.injEq]at h1;simp_all};{left;refine⟨hbb,?_,h2⟩;simpa[c',List.getElem?_set_ne (Ne.symm hbb)]using h1});have himg:img c.ρ c.H g:=⟨b,k,hb,hg⟩;(have hto:To c c':=by refine⟨List.prefix_rfl,by simp[c'],rfl,rfl,rfl,?_,?_,?_,fun g1 es n h1=>⟨es,n,(setRow_other c.w g g1 cur' (by rintro rfl;simp_all)).trans h1⟩,fun g1 o h1 h0=>⟨o,(setRow_other c.w g g1 cur' (by rintro rfl;rw[hcur]at h1;cases h1;exact h0 rfl)).trans h1,rfl⟩,fun _ _=>⟨id,.inl⟩⟩;{rintro g1 hg1 ⟨b1,k1,h1,h2⟩;rcases live b1 k1 g1 h1 h2 with⟨-,h3,h4⟩|⟨-,-,h3⟩;{exact⟨b1,k1,h3,h4⟩};simp_all};{intro g1 hg1 hn;exact setRow_other c.w g g1 cur' fun h=>hn (h▸himg)};{intro g1 cur1 e1 fz1 h1;by_cases hgg:g1=g;{subst hgg;rw[hcur]at h1;simp only[Option.some.injEq,Obj.cells.injEq]at h1;obtain⟨rfl,rfl,-⟩:=h1;exact⟨cur',(0,0),setRow_heap c.w g1 cur cur' k.e (0,0) hcur,hs⟩};{exact⟨cur1,fz1,(setRow_other c.w g g1 cur' hgg).trans h1,rfl⟩}});refine⟨c',rfl,rfl,hto,?_,rfl⟩;refine⟨by simp[c',ok.len],fun g1 h1=>by simpa[c']using ok.lt g1 h1,?_,?_,?_,hto.glob ok⟩;{rintro g1 ⟨b1,k1,h1,h2⟩;rcases live b1 k1 g1 h1 h2 with⟨-,h3,h4⟩|⟨-,-,h3⟩;{exact ok.img g1 ⟨b1,k1,h3,h4⟩};{rw[h3];exact ok.img g himg}};{intro b1 e1 cs1 wh1 g1 h1 h2;rcases live b1 _ g1 h1 h2 with⟨hne,h3,h4⟩|⟨-,h3,h4⟩;{have hgg:g1≠g:=fun h=>hne (ok.inj b1 b _ k g1 h3 hb h4 (h▸hg));exact(ok.blk b1 e1 cs1 wh1 g1 h3 h4).keep (hto.keeps ok) (setRow_other c.w g g1 cur' hgg)};{simp only[Blk.mk.injEq]at h3;obtain⟨rfl,rfl,rfl⟩:=h3;subst h4;exact .inl ⟨cur',xs',setRow_heap c.w g1 cur cur' k.e (0,0) hcur,hr.to hto ok,hp,hwh⟩}};{intro b1 b2 k1 k2 g1 h1 h2 h3 h4;rcases live b1 k1 g1 h1 h3 with⟨hne,h5,h6⟩|⟨h5,-,h6⟩<;>rcases live b2 k2 g1 h2 h4 with⟨hne',h7,h8⟩|⟨h7,-,h8⟩;{exact ok.inj b1 b2 k1 k2 g1 h5 h7 h6 h8};{subst h8;exact absurd (ok.inj b1 b k1 k g1 h5 hb h6 hg) hne};{subst h6;exact absurd (ok.inj b2 b k2 k g1 h7 hb h8 hg) hne'};omega}
theorem A8{c:Cfg}(ok:Ok Gd c){b g:Nat}{k:Blk}{cs':List A}{es es':Array MapEntry}{n n':Nat}(hb:c.H[b]?=some (some k))(hg:c.ρ[b]?=some g)(hcur:c.w.heap[g]?=some (.map es n)) (hr:RL c.ρ c.own c.w cs' (gL es'.toList)) (hbn:B0 es' n'):∃c',c'.H=c.H.set b (some ⟨k.e,cs',k.whole⟩)/\c'.w={c.w with heap:=c.w.heap.setIfInBounds g (.map es' n')}/\To c c'/\Ok Gd c'/\c'.ρ=c.ρ:=by let c':Cfg:=⟨c.ρ,c.own,c.H.set b (some ⟨k.e,cs',k.whole⟩),{c.w with heap:=c.w.heap.setIfInBounds g (.map es' n')}⟩;have hbl:=(List.getElem?_eq_some_iff.1 hb).1;(have live:∀(b1:Nat) (k1:Blk) (g1:Nat),c'.H[b1]?=some (some k1)->c'.ρ[b1]?=some g1->(b1≠b/\c.H[b1]?=some (some k1)/\c.ρ[b1]?=some g1)\/(b1=b/\k1=⟨k.e,cs',k.whole⟩/\g1=g):=by intro b1 k1 g1 h1 h2;by_cases hbb:b1=b;{subst hbb;right;have h3:c.ρ[b1]?=some g1:=h2;rw[hg]at h3;simp only[c',List.getElem?_set_self hbl,Option.some.injEq]at h1;simp_all};{left;refine⟨hbb,?_,h2⟩;simpa[c',List.getElem?_set_ne (Ne.symm hbb)]using h1});have himg:img c.ρ c.H g:=⟨b,k,hb,hg⟩;have hother:∀g1,g1≠g->(c.w.heap.setIfInBounds g (.map es' n'))[g1]?=c.w.heap[g1]?:=fun g1 hg1=>Array.getElem?_setIfInBounds_ne (Ne.symm hg1);have hself:(c.w.heap.setIfInBounds g (.map es' n'))[g]?=some (.map es' n'):=Array.getElem?_setIfInBounds_self_of_lt (Array.getElem?_eq_some_iff.1 hcur).1;(have hto:To c c':=by refine⟨List.prefix_rfl,by simp[c'],rfl,rfl,rfl,?_,?_,fun g1 cur1 e1 fz1 h1=>⟨cur1,fz1,(hother g1 (by rintro rfl;simp_all)).trans h1,rfl⟩,?_,fun g1 o h1 h0=>⟨o,(hother g1 (by rintro rfl;rw[hcur]at h1;cases h1;exact h0 rfl)).trans h1,rfl⟩,fun _ _=>⟨id,.inl⟩⟩;{rintro g1 hg1 ⟨b1,k1,h1,h2⟩;rcases live b1 k1 g1 h1 h2 with⟨-,h3,h4⟩|⟨-,-,h3⟩;{exact⟨b1,k1,h3,h4⟩};simp_all};{intro g1 hg1 hn;exact hother g1 fun h=>hn (h▸himg)};{intro g1 es1 n1 h1;by_cases hgg:g1=g;{subst hgg;exact⟨es',n',hself⟩};{exact⟨es1,n1,(hother g1 hgg).trans h1⟩}});refine⟨c',rfl,rfl,hto,?_,rfl⟩;refine⟨by simp[c',ok.len],fun g1 h1=>by simpa[c']using ok.lt g1 h1,?_,?_,?_,hto.glob ok⟩;{rintro g1 ⟨b1,k1,h1,h2⟩;rcases live b1 k1 g1 h1 h2 with⟨-,h3,h4⟩|⟨-,-,h3⟩;{exact ok.img g1 ⟨b1,k1,h3,h4⟩};{rw[h3];exact ok.img g himg}};{intro b1 e1 cs1 wh1 g1 h1 h2;rcases live b1 _ g1 h1 h2 with⟨hne,h3,h4⟩|⟨-,h3,h4⟩;{have hgg:g1≠g:=fun h=>hne (ok.inj b1 b _ k g1 h3 hb h4 (h▸hg));exact(ok.blk b1 e1 cs1 wh1 g1 h3 h4).keep (hto.keeps ok) (hother g1 hgg)};{simp only[Blk.mk.injEq]at h3;obtain⟨rfl,rfl,rfl⟩:=h3;subst h4;exact .inr (.inl ⟨es',n',hself,hr.to hto ok,hbn⟩)}};{intro b1 b2 k1 k2 g1 h1 h2 h3 h4;rcases live b1 k1 g1 h1 h3 with⟨hne,h5,h6⟩|⟨h5,-,h6⟩<;>rcases live b2 k2 g1 h2 h4 with⟨hne',h7,h8⟩|⟨h7,-,h8⟩;{exact ok.inj b1 b2 k1 k2 g1 h5 h7 h6 h8};{subst h8;exact absurd (ok.inj b1 b k1 k g1 h5 hb h6 hg) hne};{subst h6;exact absurd (ok.inj b2 b k2 k g1 h7 hb h8 hg) hne'};omega}
theorem EM{c:Cfg}(ok:Ok Gd c)(b:Nat):To c ⟨c.ρ,c.own,c.H.set b none,c.w⟩/\Ok Gd ⟨c.ρ,c.own,c.H.set b none,c.w⟩:=by(have live:∀(b1:Nat) (k1:Blk),(c.H.set b none)[b1]?=some (some k1)->c.H[b1]?=some (some k1):=by grind);have hto:To c ⟨c.ρ,c.own,c.H.set b none,c.w⟩:=⟨List.prefix_rfl,Nat.le_refl _,rfl,rfl,rfl,fun g _ ⟨b1,k1,h1,h2⟩=>⟨b1,k1,live b1 k1 h1,h2⟩,fun _ _ _=>rfl,fun _ cur _ fz h=>⟨cur,fz,h,rfl⟩,fun _ es n h=>⟨es,n,h⟩,fun _ o h _=>⟨o,h,rfl⟩,fun _ _=>⟨id,.inl⟩⟩;refine⟨hto,⟨by simp[ok.len],ok.lt,fun g ⟨b1,k1,h1,h2⟩=>ok.img g ⟨b1,k1,live b1 k1 h1,h2⟩,fun b1 e1 cs1 wh1 g1 h1 h2=>?_,fun b1 b2 k1 k2 g1 h1 h2 h3 h4=>ok.inj b1 b2 k1 k2 g1 (live b1 k1 h1) (live b2 k2 h2) h3 h4,hto.glob ok⟩⟩;exact(ok.blk b1 e1 cs1 wh1 g1 (live b1 _ h1) h2).keep (hto.keeps ok) rfl
theorem UM{c:Cfg}(ok:Ok Gd c){b g:Nat}{k:Blk}(hb:c.H[b]?=some (some k))(hg:c.ρ[b]?=some g){cur:Array Value}{e:TypeId}{fz:Nat×Nat}(hcur:c.w.heap[g]?=some (.cells cur e fz))(off n:Nat)(hn:n≠0):To c ⟨c.ρ,c.own,c.H.set b none,c.w.freeze ⟨g,off,none⟩ n⟩/\Ok Gd ⟨c.ρ,c.own,c.H.set b none,c.w.freeze ⟨g,off,none⟩ n⟩:=by obtain⟨t1,o1⟩:=EM ok b;(have hw:(c.w.freeze ⟨g,off,none⟩ n).heap=c.w.heap.modify g fun|.cells c elem (lo,hi)=>.cells c elem (if lo==hi then(off,off+n)else(min lo off,max hi (off+n)))|o=>o:=by unfold World.freeze;rw[if_neg hn];rfl);(have hf:(c.w.freeze ⟨g,off,none⟩ n).os=c.w.os/\(c.w.freeze ⟨g,off,none⟩ n).tape=c.w.tape/\(c.w.freeze ⟨g,off,none⟩ n).output=c.w.output:=by unfold World.freeze;simp_all);(have hsz:(c.w.freeze ⟨g,off,none⟩ n).heap.size=c.w.heap.size:=by simp_all);(have hother:∀g1,g1≠g->(c.w.freeze ⟨g,off,none⟩ n).heap[g1]?=c.w.heap[g1]?:=fun g1 h1=>by rw[hw,Array.getElem?_modify,if_neg (Ne.symm h1)]);(have hself:∃fz',(c.w.freeze ⟨g,off,none⟩ n).heap[g]?=some (.cells cur e fz'):=by rw[hw,Array.getElem?_modify,if_pos rfl,hcur];simp);obtain⟨fz',hself⟩:=hself;have himg:img c.ρ c.H g:=⟨b,k,hb,hg⟩;(have hto:To ⟨c.ρ,c.own,c.H,c.w⟩ ⟨c.ρ,c.own,c.H.set b none,c.w.freeze ⟨g,off,none⟩ n⟩:=by refine⟨List.prefix_rfl,Nat.le_of_eq hsz.symm,hf.1,hf.2.1,hf.2.2,t1.img,?_,?_,?_,?_,fun _ _=>⟨id,.inl⟩⟩;{intro g1 hg1 hn1;exact hother g1 fun h=>hn1 (h▸himg)};{intro g1 cur1 e1 fz1 h1;by_cases hgg:g1=g;{simp_all};simp_all};{intro g1 es n1 h1;refine⟨es,n1,(hother g1 ?_).trans h1⟩;rintro rfl;simp_all};{intro g1 o h1 h0;refine⟨o,(hother g1 ?_).trans h1,rfl⟩;rintro rfl;have h1:c.w.heap[g1]?=some o:=h1;rw[hcur]at h1;cases h1;exact h0 rfl});refine⟨hto,⟨by simp[ok.len],fun g1 h1=>by rw[hsz];exact ok.lt g1 h1,o1.img,fun b1 e1 cs1 wh1 g1 h1 h2=>?_,o1.inj,hto.glob ok⟩⟩;(have hne:b1≠b:=by rintro rfl;have hlt:=(List.getElem?_eq_some_iff.1 hb).1;rw[List.getElem?_set_self hlt]at h1;cases h1);(have h3:c.H[b1]?=some (some ⟨e1,cs1,wh1⟩):=by simpa[List.getElem?_set_ne (Ne.symm hne)]using h1);exact(ok.blk b1 e1 cs1 wh1 g1 h3 h2).keep (hto.keeps ok) (hother g1 fun h=>hne (ok.inj b1 b _ k g1 h3 hb h2 (h▸hg)))
theorem aDT{c:Cfg}(ok:Ok Gd c){b g:Nat}{k:Blk}{cs':List A}{cur cur':Array Value}{xs':List Value}(hb:c.H[b]?=some (some k))(hg:c.ρ[b]?=some g)(hcur:c.w.heap[g]?=some (.cells cur k.e (0,0))) (hr:RL c.ρ c.own c.w cs' xs') (hp:xs'<+:cur'.toList) (hs:cur'.size=cur.size):∃c',c'.H=c.H.set b none++[some ⟨k.e,cs',false⟩]/\c'.w=c.w.setRow g cur'/\To c c'/\Ok Gd c'/\c'.ρ[c.H.length]?=some g:=by let c':Cfg:=⟨c.ρ++[g],c.own,c.H.set b none++[some ⟨k.e,cs',false⟩],c.w.setRow g cur'⟩;have hlen:=ok.len;(have live:∀(b1:Nat) (k1:Blk) (g1:Nat),c'.H[b1]?=some (some k1)->c'.ρ[b1]?=some g1->(b1≠b/\b1<c.H.length/\c.H[b1]?=some (some k1)/\c.ρ[b1]?=some g1)\/(b1=c.H.length/\k1=⟨k.e,cs',false⟩/\g1=g):=by intro b1 k1 g1 h1 h2;rcases Nat.lt_or_ge b1 c.H.length with hlt|hge;{left;(have h1':(c.H.set b none)[b1]?=some (some k1):=by simpa[c',List.getElem?_append_left (by simp_all:b1<(c.H.set b none).length)]using h1);(have hbb:b1≠b:=by rintro rfl;simp_all);exact⟨hbb,hlt,by simpa[List.getElem?_set_ne (Ne.symm hbb)]using h1',by simpa[c',List.getElem?_append_left (by omega:b1<c.ρ.length)]using h2⟩};{right;(have hb':b1=c.H.length:=by have:=(List.getElem?_eq_some_iff.1 h1).1;simp[c']at this;omega);subst hb';refine⟨rfl,?_,?_⟩;{simp only[c']at h1;simp_all};{simp only[c']at h2;simp_all}});have himg:img c.ρ c.H g:=⟨b,k,hb,hg⟩;(have hto:To c c':=by refine⟨List.prefix_append _ _,by simp[c'],rfl,rfl,rfl,?_,?_,?_,fun g1 es n h1=>⟨es,n,(setRow_other c.w g g1 cur' (by rintro rfl;simp_all)).trans h1⟩,fun g1 o h1 h0=>⟨o,(setRow_other c.w g g1 cur' (by rintro rfl;rw[hcur]at h1;cases h1;exact h0 rfl)).trans h1,rfl⟩,fun _ _=>⟨id,.inl⟩⟩;{rintro g1 hg1 ⟨b1,k1,h1,h2⟩;rcases live b1 k1 g1 h1 h2 with⟨-,-,h3,h4⟩|⟨-,-,h3⟩;{exact⟨b1,k1,h3,h4⟩};simp_all};{intro g1 hg1 hn;exact setRow_other c.w g g1 cur' fun h=>hn (h▸himg)};{intro g1 cur1 e1 fz1 h1;by_cases hgg:g1=g;{subst hgg;rw[hcur]at h1;simp only[Option.some.injEq,Obj.cells.injEq]at h1;obtain⟨rfl,rfl,-⟩:=h1;exact⟨cur',(0,0),setRow_heap c.w g1 cur cur' k.e (0,0) hcur,hs⟩};{exact⟨cur1,fz1,(setRow_other c.w g g1 cur' hgg).trans h1,rfl⟩}});refine⟨c',rfl,rfl,hto,?_,?_⟩;{refine⟨by simp[c',ok.len],fun g1 h1=>by simpa[c']using ok.lt g1 h1,?_,?_,?_,hto.glob ok⟩;{rintro g1 ⟨b1,k1,h1,h2⟩;rcases live b1 k1 g1 h1 h2 with⟨-,-,h3,h4⟩|⟨-,-,h3⟩;{exact ok.img g1 ⟨b1,k1,h3,h4⟩};{rw[h3];exact ok.img g himg}};{intro b1 e1 cs1 wh1 g1 h1 h2;rcases live b1 _ g1 h1 h2 with⟨hne,-,h3,h4⟩|⟨-,h3,h4⟩;{have hgg:g1≠g:=fun h=>hne (ok.inj b1 b _ k g1 h3 hb h4 (h▸hg));exact(ok.blk b1 e1 cs1 wh1 g1 h3 h4).keep (hto.keeps ok) (setRow_other c.w g g1 cur' hgg)};{simp only[Blk.mk.injEq]at h3;obtain⟨rfl,rfl,rfl⟩:=h3;subst h4;exact .inl ⟨cur',xs',setRow_heap c.w g1 cur cur' k.e (0,0) hcur,hr.to hto ok,hp,fun h=>by cases h⟩}};{intro b1 b2 k1 k2 g1 h1 h2 h3 h4;rcases live b1 k1 g1 h1 h3 with⟨hne,-,h5,h6⟩|⟨h5,-,h6⟩<;>rcases live b2 k2 g1 h2 h4 with⟨hne',-,h7,h8⟩|⟨h7,-,h8⟩;{exact ok.inj b1 b2 k1 k2 g1 h5 h7 h6 h8};{subst h8;exact absurd (ok.inj b1 b k1 k g1 h5 hb h6 hg) hne};{subst h6;exact absurd (ok.inj b2 b k2 k g1 h7 hb h8 hg) hne'};omega}};{simp only[c'];rw[<-hlen];simp}
theorem CV{w:World}{o:Obj}{g:Nat}(hg:g<w.heap.size):(w.alloc o).heap[g]?=w.heap[g]?:=by show(w.heap.push o)[g]?=w.heap[g]?;grind
theorem aKd{c:Cfg}(ok:Ok Gd c){o:Obj}{cs:List A}(hB:∀ρ' own' w',kB c.ρ c.own c.w ρ' own' w'->w'.heap[c.w.heap.size]?=some o->WQ Gd ρ' own' w' 0 cs true c.w.heap.size):∃c',c'.H=c.H++[some ⟨0,cs,true⟩]/\c'.w=c.w.alloc o/\To c c'/\Ok Gd c'/\c'.ρ[c.H.length]?=some c.w.heap.size/\c'.w.heap[c.w.heap.size]?=some o:=by have hsize:(c.w.alloc o).heap.size=c.w.heap.size+1:=World.size_alloc ..;have hold:∀g,g<c.w.heap.size->(c.w.alloc o).heap[g]?=c.w.heap[g]?:=fun g hg=>CV hg;have hnew:(c.w.alloc o).heap[c.w.heap.size]?=some o:=World.alloc_heap_new ..;let c':Cfg:=⟨c.ρ++[c.w.heap.size],fun g=>c.own g\/g=c.w.heap.size,c.H++[some ⟨0,cs,true⟩],c.w.alloc o⟩;have hlen:=ok.len;(have live:∀(b:Nat) (k:Blk) (g:Nat),c'.H[b]?=some (some k)->c'.ρ[b]?=some g->(c.H[b]?=some (some k)/\c.ρ[b]?=some g)\/(b=c.H.length/\k=⟨0,cs,true⟩/\g=c.w.heap.size):=by grind);(have hto:To c c':=by refine⟨List.prefix_append _ _,by simp[c',hsize],rfl,rfl,rfl,?_,fun g hg _=>hold g hg,fun g cur1 e1 fz1 h1=>⟨cur1,fz1,(hold g (Array.getElem?_eq_some_iff.1 h1).1).trans h1,rfl⟩,fun g es1 n1 h1=>⟨es1,n1,(hold g (Array.getElem?_eq_some_iff.1 h1).1).trans h1⟩,fun g o h1 _=>⟨o,(hold g (Array.getElem?_eq_some_iff.1 h1).1).trans h1,rfl⟩,?_⟩;{rintro g hg ⟨b,k,hb,hbg⟩;rcases live b k g hb hbg with⟨h1,h2⟩|⟨-,-,h3⟩;{exact⟨b,k,h1,h2⟩};omega};grind);refine⟨c',rfl,rfl,hto,?_,?_,hnew⟩;{refine⟨by simp[c',hlen],?_,?_,?_,?_,hto.glob ok⟩;{rintro g (h|h);{have:=ok.lt g h;simp[c',hsize];omega};{simp[c',hsize,h]}};{rintro g ⟨b,k,hb,hbg⟩;rcases live b k g hb hbg with⟨h1,h2⟩|⟨-,-,h3⟩;{exact .inl (ok.img g ⟨b,k,h1,h2⟩)};omega};{intro b e1 cs1 wh1 g hb hg;rcases live b _ g hb hg with⟨h1,h2⟩|⟨-,h2,h3⟩;{exact(ok.blk b e1 cs1 wh1 g h1 h2).keep (hto.keeps ok) (hold g (ok.lt g (ok.img g ⟨b,_,h1,h2⟩)))};{simp only[Blk.mk.injEq]at h2;obtain⟨rfl,rfl,rfl⟩:=h2;subst h3;exact hB _ _ _ (hto.keeps ok) hnew}};{intro b b' k k' g hb hb' hg hg';rcases live b k g hb hg with⟨h1,h2⟩|⟨h1,-,h3⟩<;>rcases live b' k' g hb' hg' with⟨h4,h5⟩|⟨h4,-,h6⟩;{exact ok.inj b b' k k' g h1 h4 h2 h5};{have:=ok.lt g (ok.img g ⟨b,k,h1,h2⟩);omega};{have:=ok.lt g (ok.img g ⟨b',k',h4,h5⟩);omega};omega}};grind
theorem aJW{c:Cfg}(ok:Ok Gd c){b g:Nat}{k:Blk}{o o':Obj}{cs:List A}(hb:c.H[b]?=some (some k))(hg:c.ρ[b]?=some g)(hcur:c.w.heap[g]?=some o)(hk0:jE o≠0)(hk:jE o'=jE o) (hB:∀ρ' own' w',kB c.ρ c.own c.w ρ' own' w'->w'.heap[g]?=some o'->WQ Gd ρ' own' w' 0 cs true g):∃c',c'.H=c.H.set b (some ⟨0,cs,true⟩)/\c'.w=c.w.putObj g o'/\To c c'/\Ok Gd c'/\c'.ρ=c.ρ:=by let c':Cfg:=⟨c.ρ,c.own,c.H.set b (some ⟨0,cs,true⟩),c.w.putObj g o'⟩;have hbl:=(List.getElem?_eq_some_iff.1 hb).1;(have live:∀(b1:Nat) (k1:Blk) (g1:Nat),c'.H[b1]?=some (some k1)->c'.ρ[b1]?=some g1->(b1≠b/\c.H[b1]?=some (some k1)/\c.ρ[b1]?=some g1)\/(b1=b/\k1=⟨0,cs,true⟩/\g1=g):=by intro b1 k1 g1 h1 h2;by_cases hbb:b1=b;{subst hbb;right;have h3:c.ρ[b1]?=some g1:=h2;rw[hg]at h3;simp only[c',List.getElem?_set_self hbl,Option.some.injEq]at h1;simp_all};{left;refine⟨hbb,?_,h2⟩;simpa[c',List.getElem?_set_ne (Ne.symm hbb)]using h1});have himg:img c.ρ c.H g:=⟨b,k,hb,hg⟩;have hother:∀g1,g1≠g->(c.w.putObj g o').heap[g1]?=c.w.heap[g1]?:=fun g1 hg1=>World.putObj_heap_other hg1;have hself:(c.w.putObj g o').heap[g]?=some o':=World.putObj_heap_same (Array.getElem?_eq_some_iff.1 hcur).1;(have hto:To c c':=by refine⟨List.prefix_rfl,by simp[c'],rfl,rfl,rfl,?_,?_,fun g1 cur1 e1 fz1 h1=>⟨cur1,fz1,(hother g1 (by rintro rfl;rw[hcur]at h1;cases h1;exact hk0 rfl)).trans h1,rfl⟩,fun g1 es1 n1 h1=>⟨es1,n1,(hother g1 (by rintro rfl;rw[hcur]at h1;cases h1;exact hk0 rfl)).trans h1⟩,?_,fun _ _=>⟨id,.inl⟩⟩;{rintro g1 hg1 ⟨b1,k1,h1,h2⟩;rcases live b1 k1 g1 h1 h2 with⟨-,h3,h4⟩|⟨-,-,h3⟩;{exact⟨b1,k1,h3,h4⟩};simp_all};{intro g1 hg1 hn;exact hother g1 fun h=>hn (h▸himg)};{intro g1 o1 h1 h0;by_cases hgg:g1=g;{subst hgg;rw[hcur]at h1;cases h1;exact⟨o',hself,hk⟩};{exact⟨o1,(hother g1 hgg).trans h1,rfl⟩}});refine⟨c',rfl,rfl,hto,?_,rfl⟩;refine⟨by simp[c',ok.len],fun g1 h1=>by simpa[c']using ok.lt g1 h1,?_,?_,?_,hto.glob ok⟩;{rintro g1 ⟨b1,k1,h1,h2⟩;rcases live b1 k1 g1 h1 h2 with⟨-,h3,h4⟩|⟨-,-,h3⟩;{exact ok.img g1 ⟨b1,k1,h3,h4⟩};{rw[h3];exact ok.img g himg}};{intro b1 e1 cs1 wh1 g1 h1 h2;rcases live b1 _ g1 h1 h2 with⟨hne,h3,h4⟩|⟨-,h3,h4⟩;{have hgg:g1≠g:=fun h=>hne (ok.inj b1 b _ k g1 h3 hb h4 (h▸hg));exact(ok.blk b1 e1 cs1 wh1 g1 h3 h4).keep (hto.keeps ok) (hother g1 hgg)};{simp only[Blk.mk.injEq]at h3;obtain⟨rfl,rfl,rfl⟩:=h3;subst h4;exact hB _ _ _ (hto.keeps ok) hself}};{intro b1 b2 k1 k2 g1 h1 h2 h3 h4;rcases live b1 k1 g1 h1 h3 with⟨hne,h5,h6⟩|⟨h5,-,h6⟩<;>rcases live b2 k2 g1 h2 h4 with⟨hne',h7,h8⟩|⟨h7,-,h8⟩;{exact ok.inj b1 b2 k1 k2 g1 h5 h7 h6 h8};{subst h8;exact absurd (ok.inj b1 b k1 k g1 h5 hb h6 hg) hne};{subst h6;exact absurd (ok.inj b2 b k2 k g1 h7 hb h8 hg) hne'};omega}
variable{P:Program}{T:Tb}
theorem aNR{ρ:List Nat}{own:Nat->Prop}{w:World}{a:A}{y:Value}(h:R ρ own w a y)(h1:one a=true):y.oneCell'=true:=by cases a with|v x=>(subst h;cases y<;>first|rfl|(simp[one]at h1))|agg cs=>simp[one]at h1|tup cs=>simp[one]at h1|ptr b off=>obtain⟨g,-,rfl,-⟩:=h;rfl|mp b=>obtain⟨g,-,rfl,-⟩:=h;rfl|mf cs=>rcases h with⟨-,rfl⟩|⟨g,es,n,rfl,-⟩<;>rfl|ref b off len sz=>obtain⟨g,cap,cur,e,fz,-,rfl,-⟩:=h;rfl|sl len cs=>rcases h with⟨-,-,ad,cap,rfl⟩|⟨g,off,cap,xs,rfl,-⟩<;>rfl|fp cs=>obtain⟨g,off,xs,rfl,-⟩:=h;rfl|clo f fs caps=>obtain⟨xs,ys,rfl,-⟩:=h;rfl|yl b=>obtain⟨g,-,rfl,-⟩:=h;rfl|lrec nt ps sl a b=>rw[R]at h;simp_all|it b=>obtain⟨g,-,rfl,-⟩:=h;rfl|its s p=>rw[R]at h;simp_all
theorem y8{ρ:List Nat}{own:Nat->Prop}{w:World}:∀{cs:List A}{ys:List Value},RL ρ own w cs ys->c9 cs=true->∀v∈ys,v.oneCell'=true|[],ys,h,_,v,hv=>by rw[RL]at h;simp_all|c::cs,ys,h,h1,v,hv=>by obtain⟨x,xs,rfl,h2,h3⟩:=h;simp[c9]at h1;cases hv with|head=>exact aNR h2 h1.1|tail _ hm=>exact y8 h3 h1.2 v hm
theorem pJ(z:List Value)(h:0<z.length):∀n,(madeCells z.toArray (n*z.length)).toList=(List.replicate n z).flatten|0=>by simp[madeCells]|n+1=>by have ih:=pJ z h n;simp[madeCells,Array.toList_map]at ih⊢;rw[List.replicate_succ,List.flatten_cons,<-ih,Nat.add_mul,Nat.add_comm,List.range_add,List.map_append];congr 1;{apply List.ext_getElem;{simp};{intro i h1 h2;simp at h1;simp[Nat.mod_eq_of_lt h1,h1]}};simp
theorem vR{ρ:List Nat}{own:Nat->Prop}{w:World}(z:List Value):∀n,RL ρ own w (iX z n) (List.replicate n z).flatten|0=>by exact RL.nil|n+1=>by exact(RL.exact z).append (vR z n)
theorem uT(place:Nat->Option (Nat×Nat)):∀(ps:List (Nat×A)) (cs r:List A),nX place cs ps=some r->r.length=cs.length|[],cs,r,h=>by simp[nX]at h;rw[h]|(i,x)::ps,cs,r,h=>by unfold nX at h;cases hp:place i with|none=>simp_all|some os=>simp only[hp]at h;split at h;{rw[uT place ps _ r h];simp;omega};simp_all
theorem pE(z:List Value):∀n,(iX z n).length=n*z.length|0=>by simp[iX]|n+1=>by simp[iX,pE z n,Nat.add_mul,Nat.add_comm]
section
variable{c:Cfg}{e:Env}{a:Act}{o:Oper}{x:A}{H':aF}
def dR(T:Tb)(P:Program)(c:Cfg)(a:Act)(o:Oper)(x:A)(H':aF):Prop:=∃r y c',(execOp a.eval o).run P c.w=.ok r c'.w/\(r=.value y\/(r=.skip/\y=undef))/\c'.H=H'/\To c c'/\Ok T.gl c'/\R c'.ρ c'.own c'.w x y
theorem dR.mk{s:Sem Value}{y:Value}{c':Cfg}(hx:execOp a.eval o=(do pure (.value (<-s))))(h:s.run P c.w=.ok y c'.w)(hH:c'.H=H')(ht:To c c')(hk:Ok T.gl c')(hr:R c'.ρ c'.own c'.w x y):dR T P c a o x H':=⟨.value y,y,c',by simp_all,.inl rfl,hH,ht,hk,hr⟩
theorem bN.makes(ok:Ok T.gl c)(h:bN P c a o x):dR T P c a o x c.H:=let⟨y,h1,h2⟩:=h;⟨.value y,y,c,h1,.inl rfl,rfl,To.refl c,ok,h2⟩
theorem aB5(hT:TOk P T)(ok:Ok T.gl c){t:TypeId}(ho:o.op=.alloc t)(h:aO T e c.H (.alloc t)=some (x,H')):dR T P c a o x H':=by simp[aO]at h;cases hty:T t with|none=>simp_all|some ty=>simp[hty]at h;obtain⟨rfl,rfl⟩:=h;obtain⟨z,hz,hzc,-⟩:=(hT.facts hty).zero c.w;(have hx:execOp a.eval o=(do pure (.value (<-Instr.alloc t true (.tuple #[])))):=by simp[execOp,ho]);obtain⟨c',h1,h2,h3,h4,h5,h6⟩:=wM (w':=c.w.alloc (.cells z.cells t)) (cs:=ty.zero.map .v) ok (.inl rfl) (RL.exact _) (by simp_all) (by grind);refine dR.mk hx (y:=.pointer (some ⟨c.w.heap.size,0,none⟩)) ?_ h1 h3 h4 (by rw[R];simp_all);rw[h2];simp[Instr.alloc,hz,newVar,newRow]
theorem aND(ok:Ok T.gl c)(he:cG c e a){t:TypeId}{p:Operand}(ho:o.op=.box t p)(h:aO T e c.H (.box t p)=some (x,H')):dR T P c a o x H':=by simp[aO]at h;cases hp:opnd e p with|none=>simp_all|some u=>simp only[hp]at h;split at h;{obtain⟨rfl,rfl⟩:=h;(have hx:execOp a.eval o=(do pure (.value (<-Instr.box t (a.eval p)))):=by simp[execOp,ho]);have hu:=xG (he.opnd hp);obtain⟨c',h1,h2,h3,h4,h5,h6⟩:=wM ok (.inl rfl) hu List.prefix_rfl (by rw[<-hu.length];simp);refine dR.mk hx (y:=.pointer (some ⟨c.w.heap.size,0,none⟩)) ?_ h1 h3 h4 (by rw[R];simp_all);rw[h2];simp[Instr.box,newVar,newRow]};simp_all
theorem l7{t:TypeId}{ty:Ty}(F:i9 P t ty)(w:World):∃z,(zeroValue t).run P w=.ok z w/\z.cells=ty.zero.toArray:=by obtain⟨z,h1,h2,-⟩:=F.zero w;grind
theorem yH(hT:TOk P T)(he:cG c e a){t:TypeId}{len:Nat}{ps:Array (Nat×Operand)}{el:TypeId}{sz:Nat}{cs:List A}(h:jL T e t len ps=some (el,sz,cs)):∃xs,RL c.ρ c.own c.w cs xs/\len<=maxLen/\xs.length=len*sz/\0<sz/\(Instr.buildSlice t len (ps.map fun(i,x)=>(i,a.eval x))).run P c.w=.ok (.slice (some ⟨c.w.heap.size,0,none⟩) len len) (c.w.alloc (.cells xs.toArray el)):=by unfold jL at h;split at h;{rename_i ty hty;split at h;{rename_i el' hk;split at h;{rename_i te qs hte hq;split at h;{rename_i hc;cases hf:nX (fun i=>some (i*te.size,te.size)) (iX te.zero len) qs with|none=>simp_all|some r=>simp only[hf,Option.map_some,Option.some.injEq,Prod.mk.injEq]at h;obtain⟨rfl,rfl,rfl⟩:=h;obtain⟨d,hd,hkd⟩:=(hT.facts hty).desc;rw[hk]at hkd;obtain rfl:=kA hkd;obtain⟨h1,h2⟩:=xQ he hq;obtain⟨xs,h3,h4⟩:=yW _ qs _ _ _ r hf (vR (ρ:=c.ρ) (own:=c.own) (w:=c.w) te.zero len) h1 h2;obtain⟨z,hz,hzc⟩:=l7 (hT.facts hte) c.w;obtain⟨c1,c2,c3,c4⟩:=hc;(have hlen:xs.length=len*te.size:=by rw[h4.length,uT _ _ _ _ hf,pE,c4]);refine⟨xs,h4,c3,hlen,c2,?_⟩;(have hlist:(ps.map fun(i,x)=>(i,a.eval x)).toList=ps.toList.map fun p=>(p.1,a.eval p.2):=by simp);(have hfill:Instr.fill (fun i=>some (i*te.size,te.size)) ((Array.range (len*te.size)).map (fun i=>(if len*te.size=0 then#[]else z.cells)[i%(if len*te.size=0 then#[]else z.cells).size]!)) (ps.map fun(i,x)=>(i,a.eval x)).toList=some xs.toArray:=by rw[hlist,<-h3];congr 1;by_cases h0:len*te.size=0;{(have hl0:len=0:=by rcases Nat.mul_eq_zero.1 h0 with h|h;{omega};omega);simp_all};{simp only[h0,if_false];apply Array.ext';have:=pJ te.zero (by omega) len;rw[c4]at this;rw[hzc];simpa[madeCells]using this});(have h24:¬(len*te.size>2^24):=by omega);by_cases h0:len*te.size=0;{simp only[h0,if_true]at hfill;simp[Instr.buildSlice,run_underlying hd,(hT.facts hte).run_sizeOf,h0,newRow];simp_all};{simp only[h0,if_false]at hfill;simp only[Instr.buildSlice,Sem.run_bind,run_underlying hd,Result.andThen_ok,(hT.facts hte).run_sizeOf,h24,h0,if_false,hz,Sem.run_pure,hfill];simp[newRow]}};simp_all};simp_all};simp_all};simp_all
end
variable{P:Program}{T:Tb}
section
variable{c:Cfg}{e:Env}{a:Act}{o:Oper}{x:A}{H':aF}
theorem B7(hT:TOk P T)(ok:Ok T.gl c)(he:cG c e a){t:TypeId}{len:Nat}{ps:Array (Nat×Operand)}(ho:o.op=.buildSlice t len ps)(h:aO T e c.H (.buildSlice t len ps)=some (x,H')):dR T P c a o x H':=by simp[aO]at h;split at h;{rename_i el sz cs hl;split at h;{obtain⟨rfl,rfl⟩:=h;obtain⟨xs,h1,h2,h3,h4,hrun⟩:=yH hT he hl;(have hx:execOp a.eval o=(do pure (.value (<-Instr.buildSlice t len (ps.map fun(i,x)=>(i,a.eval x))))):=by simp[execOp,ho]);obtain⟨c',k1,k2,k3,k4,k5,-⟩:=wM (w':=c.w.alloc (.cells xs.toArray el)) (wh:=true) ok (.inl rfl) h1 (by simp) (by simpa using h1.length);refine dR.mk hx (y:=.slice (some ⟨c.w.heap.size,0,none⟩) len len) (by simp_all) k1 k3 k4 ?_;refine⟨c.w.heap.size,len,xs.toArray,el,(0,0),k5,rfl,Nat.le_refl _,h2,by rw[k2];exact heap_alloc_new c.w _,by simp_all⟩};simp_all};simp_all
theorem aB1(hT:TOk P T)(ok:Ok T.gl c)(he:cG c e a){t:TypeId}{p q:Operand}(ho:o.op=.store t p q)(h:aO T e c.H (.store t p q)=some (x,H')):dR T P c a o x H':=by simp only[aO]at h;split at h;{rename_i b off u ty hp hq hty;split at h;{rename_i k hb;split at h;{rename_i hc;obtain⟨rfl,rfl⟩:=h;obtain⟨c1,c2,c3⟩:=hc;have hpr:=he.opnd hp;obtain⟨g,hg,hpa,hsh⟩:=hpr;have hv:=xG (he.opnd hq);obtain⟨cur,xs,hcur,hxs,-,hpre,hwh⟩:=ok.lies hb hg hsh;(have hvl:(a.eval q).cells.size=ty.size:=by rw[<-c1,<-hv.length];simp);have hxl:=hxs.length;(have hcl:k.cs.length<=cur.size:=by grind);have hrun:=run_storeCells_at (P:=P) g off k.e (a.eval q).cells.toList 0 cur c.w hcur (by simp;omega) (y8 hv c3);obtain⟨t',ht'⟩:=hpre;(have hlist:cur.toList.take (off+0)++(a.eval q).cells.toList++cur.toList.drop (off+0+(a.eval q).cells.toList.length)=(xs.take off++(a.eval q).cells.toList++xs.drop (off+ty.size))++t':=by grind);rw[hlist]at hrun;obtain⟨c',k1,k2,k3,k4,-⟩:=aAK (cur':=((xs.take off++(a.eval q).cells.toList++xs.drop (off+ty.size))++t').toArray) ok hb hg hcur (((hxs.take off).append hv).append (hxs.drop (off+ty.size))) (by simp) (by grind) (by grind);refine⟨.skip,undef,c',?_,.inr ⟨rfl,rfl⟩,k1,k3,k4,by rw[R]⟩;(have hn:¬((a.eval q).cells.size≠ty.size):=by omega);simp[execOp,ho,Instr.storeAt,Instr.sureAddr,hpa,storeVar,(hT.facts hty).run_sizeOf,hn,hrun,k2]};simp_all};simp_all};simp_all
theorem FJ(hT:TOk P T)(ok:Ok T.gl c)(he:cG c e a){t:TypeId}{p q:Operand}(ho:o.op=.makeSlice t p q)(h:aO T e c.H (.makeSlice t p q)=some (x,H')):dR T P c a o x H':=by simp only[aO]at h;split at h;{rename_i ty k1 n k2 m hty hp hq;split at h;{rename_i el hk;split at h;{rename_i te hte;split at h;{rename_i hc;obtain⟨rfl,rfl⟩:=h;obtain⟨c1,c2,c3,c4,c5,c6⟩:=hc;obtain⟨d,hd,hkd⟩:=(hT.facts hty).desc;rw[hk]at hkd;obtain rfl:=kA hkd;obtain⟨i,z,hi,hs,hby,hz,-⟩:=(hT.facts hte).info;obtain⟨z',hz1,hzc⟩:=l7 (hT.facts hte) c.w;(have hzz:z'=z:=by simpa[zeroValue,typeInfo,hi,hz,eq_comm]using hz1);subst hzz;have hpr:=he.opnd hp;have hqr:=he.opnd hq;simp[R]at hpr hqr;(have hb:(i.bytes)*m<=281474976710656:=by rw[hby,Int.mul_comm];omega);(have hm63:=by simpa[maxLen]using c4);have hrun:=run_make c.w t el i z' hd hi hz k1 k2 n m c1 c2 hb hm63;(have hx:execOp a.eval o=(do pure (.value (<-Instr.makeSlice t (a.eval p) (a.eval q)))):=by simp[execOp,ho]);(have hmade:(madeCells z'.cells (m.toNat*i.size)).toList=(List.replicate m.toNat te.zero).flatten:=by rw[hzc,hs,<-c6];exact pJ te.zero (by omega) m.toNat);(have hlen:(madeCells z'.cells (m.toNat*i.size)).size=m.toNat*te.size:=by rw[size_madeCells,hs]);obtain⟨c',j1,j2,j3,j4,j5,-⟩:=wM (w':=c.w.alloc (.cells (madeCells z'.cells (m.toNat*i.size)) el)) ok (.inl rfl) (vR te.zero m.toNat) (by simp_all) (by intro _;rw[hlen,pE,c6]);refine dR.mk hx (y:=.slice (some ⟨c.w.heap.size,0,none⟩) n.toNat m.toNat) (by simp_all) j1 j3 j4 ?_;refine⟨c.w.heap.size,m.toNat,_,el,(0,0),j5,rfl,by omega,by omega,by rw[j2];exact heap_alloc_new c.w _,by omega⟩};simp_all};simp_all};simp_all};simp_all
theorem TX(ok:Ok T.gl c){u:A}{y:Value}{sz m:Nat}{news:List A}(h:aO.srcL c.H sz u=some (m,news))(hn:news.length=m*sz)(hr:R c.ρ c.own c.w u y):(∀w,(Builtin.lenOf y).run P w=.ok m w)/\∃vs,RL c.ρ c.own c.w news vs/\∀(j:Nat) (w':World),j<=m->(∀ad,w'.cell? ad=c.w.cell? ad)->(Builtin.firstCells sz j y).run P w'=.ok (vs.take (j*sz)).toArray w':=by(have lie:∀(g off cap:Nat) (vs:List Value),y=.slice (some ⟨g,off,none⟩) m cap->RL c.ρ c.own c.w news vs->rK c.w g off vs->(∀w,(Builtin.lenOf y).run P w=.ok m w)/\∃vs,RL c.ρ c.own c.w news vs/\∀(j:Nat) (w':World),j<=m->(∀ad,w'.cell? ad=c.w.cell? ad)->(Builtin.firstCells sz j y).run P w'=.ok (vs.take (j*sz)).toArray w':=by intro g off cap vs hy h1 h2;subst hy;refine⟨fun w=>by simp[Builtin.lenOf],vs,h1,fun j w' hj hw=>?_⟩;have hvl:=h1.length;have hjm:j*sz<=m*sz:=Nat.mul_le_mul_right _ hj;refine run_firstCells_some w' sz j ⟨g,off,none⟩ m cap _ (by simp_all) fun i v hv=>?_;rw[Addr.add_lit,hw];exact h2.take _ i v hv);unfold aO.srcL at h;split at h;{rename_i n cs;simp only[Option.some.injEq,Prod.mk.injEq]at h;obtain⟨rfl,rfl⟩:=h;simp only[R]at hr;rcases hr with⟨rfl,rfl,ad,cap,rfl⟩|⟨g,off,cap,xs,rfl,h0,h1,h2,h3,h4⟩;{refine⟨fun w=>by simp[Builtin.lenOf],[],RL.nil,fun j w' hj _=>?_⟩;(obtain rfl:j=0:=by omega);cases ad<;>simp[Builtin.firstCells,loadCells,loadCellsFrom]};{exact lie g off cap xs rfl h3.open_ h4}};{simp only[Option.some.injEq,Prod.mk.injEq]at h;obtain⟨rfl,rfl⟩:=h;simp only[R]at hr;subst hr;refine⟨fun w=>by simp[Builtin.lenOf],[],RL.nil,fun j w' hj _=>?_⟩;simp[Builtin.firstCells]};{simp only[Option.some.injEq,Prod.mk.injEq]at h;obtain⟨rfl,rfl⟩:=h;simp only[R]at hr;subst hr;refine⟨fun w=>by simp[Builtin.lenOf],[],RL.nil,fun j w' hj _=>?_⟩;(obtain rfl:j=0:=by omega);simp[Builtin.firstCells,loadCells,loadCellsFrom]};{rename_i b off n s;split at h;{rename_i k hb;split at h;{rename_i hc;simp only[Option.some.injEq,Prod.mk.injEq]at h;obtain⟨rfl,rfl⟩:=h;obtain⟨rfl,hc⟩:=hc;simp only[R]at hr;obtain⟨g,cap,cur,e',fz,hg,rfl,-,-,hcl,-⟩:=hr;obtain⟨cur1,xs,-,h2,h3,-⟩:=ok.lies hb hg ⟨cur,e',fz,hcl⟩;refine lie g off cap ((xs.drop off).take (n*s)) rfl ((h2.drop off).take _) ?_;have:=(h3.drop off).take (n*s);simp_all};simp_all};simp_all};simp_all
theorem aIo{d:TypeDesc}{k:IntKind}(h:kOf d=.int k):d=.int k:=by cases d<;>first|(simp only[kOf]at h;simp_all)|simp_all
theorem aFH{d:TypeDesc}{e:TypeId}(h:kOf d=.ptr e):d=.pointer e:=by cases d<;>first|(simp only[kOf]at h;simp_all)|simp_all
structure Src(P:Program)(te:Ty)(el t t' ty:TypeId)(y:Value)(m:Nat)(vs:List Value)(w:World):Prop where
 inn:∀{g n cap:Nat} {cur:Array Value} {e:TypeId},w.heap[g]?=some (.cells cur e (0,0))→n+m≤cap→n*te.size+vs.length≤cur.size →
  (Builtin.append_ #[t,t'] ty #[.slice (some ⟨g,0,none⟩) n cap,y]).run P w=.ok (.slice (some ⟨g,0,none⟩) (n+m) cap) (w.setRow g (cur.toList.take (n*te.size)++vs++cur.toList.drop (n*te.size+vs.length)).toArray)
 out:∀{s:Value} {xs:List Value} {base:Option Addr} {n cap:Nat},s=.slice base n cap→(Builtin.firstCells te.size n s).run P w.drew=.ok xs.toArray w.drew→cap<n+m→n+m≤maxLen→(n+m)*te.bytes≤2 ^ 47 →
  ∃ z:Value,(zeroValue el).run P w.drew=.ok z w.drew∧(Builtin.append_ #[t,t'] ty #[s,y]).run P w=.ok (.slice (some ⟨w.heap.size,0,none⟩) (n+m) (grownCap w (n+m) cap el)) (w.drew.alloc (.cells (xs.toArray++(vs.toArray++Builtin.zeroCells z.cells (grownCap w (n+m) cap el-(n+m)))) el))
 nil:m=0→(Builtin.append_ #[t,t'] ty #[.slice none 0 0,y]).run P w=.ok (.slice none 0 0) w
theorem YQ{t t' ty el:TypeId}{te:Ty}(hT:TOk P T)(hte:T el=some te)(ht:P.underlying t=some (.slice el)){d':TypeDesc}(ht':P.underlying t'=some d')(hd':∀k,d'≠.int k){w:World}{y:Value}{m:Nat}{vs:List Value}(hl:∀w,(Builtin.lenOf y).run P w=.ok m w) (hf:(Builtin.firstCells te.size m y).run P w=.ok vs.toArray w) (hf1:(Builtin.firstCells te.size m y).run P w.drew=.ok vs.toArray w.drew) (hv:∀v∈vs,v.oneCell'=true) (hvl:vs.length=m*te.size):Src P te el t t' ty y m vs w:=by refine⟨?_,?_,?_⟩;{intro g n cap cur e hcur hroom hfit;have hst:=run_storeCells_at P g (n*te.size) e vs 0 cur w hcur (by omega) hv;simp[Builtin.append_,run_underlying ht,run_underlying ht',(hT.facts hte).run_sizeOf,hl,hroom,hf,Addr.add_lit,hst]};{intro s xs base n cap hs hfs hroom h63 hby;obtain⟨i,z,hi,his,hib,hz,-⟩:=(hT.facts hte).info;(have hzr:(zeroValue el).run P w.drew=.ok z w.drew:=by simp[zeroValue,typeInfo,hi,hz]);subst hs;(have h1:¬(n+m<=cap):=by omega);have hfit:=growslice_fits hroom (by omega);(have h2:¬(Builtin.nextslicecap (n+m) cap*i.bytes>2^48):=by simp_all);(have hns:=by omega);(have h63':¬(9223372036854775807<(n:Int)+m):=by simp[maxLen]at h63;omega);simp[Builtin.append_,run_underlying ht,run_underlying ht',(hT.facts hte).run_sizeOf,hl,h1,typeInfo,hi,hns,h63',hfs,hf1,hzr,newRow,Question.forced,grownCap]};{intro hm;subst hm;simp[Builtin.append_,run_underlying ht,run_underlying ht',(hT.facts hte).run_sizeOf,hl,hf]}
theorem aAq{t t' ty el:TypeId}{te:Ty}(hT:TOk P T)(hte:T el=some te)(ht:P.underlying t=some (.slice el)){k:IntKind}(ht':P.underlying t'=some (.int k)){w:World}{m:Nat}{vs:List Value}(hm:m<=maxLen) (hz:∀w,(do pure (Builtin.zeroCells (<-zeroValue el).cells m):Sem (Array Value)).run P w=.ok vs.toArray w) (hv:∀v∈vs,v.oneCell'=true) (hvl:vs.length=m*te.size) (hbig:m*te.bytes<=2^47):Src P te el t t' ty (.int .i64 m) m vs w:=by obtain⟨i,z,hi,his,hib,hzv,-⟩:=(hT.facts hte).info;(have hzr:∀w,(zeroValue el).run P w=.ok z w:=fun w=>by simp[zeroValue,typeInfo,hi,hzv]);(have hvz:Builtin.zeroCells z.cells m=vs.toArray:=by simp_all);(have hwr:IntKind.i64.wrap (m:Int)=m:=by simp only[maxLen]at hm;rw[IntKind.wrap_i64];omega);(have hb1:¬((m:Int)*i.bytes>2^48):=by rw[hib];omega);(have hns1:¬(281474976710656<(m:Int)*i.bytes):=by omega);(have hneg:¬((m:Int)<0):=by simp);have hmz:m*te.size=0->vs=[]:=fun h=>List.eq_nil_of_length_eq_zero (by omega);(have happ:∀w,((if m*te.size=0 then pure #[]else do pure (Builtin.zeroCells (<-zeroValue el).cells m):Sem (Array Value))).run P w=.ok vs.toArray w:=by simp_all);refine⟨?_,?_,?_⟩;{intro g n cap cur e hcur hroom hfit;have hst:=run_storeCells_at P g (n*te.size) e vs 0 cur w hcur (by omega) hv;simp only[Nat.add_zero]at hst;have ha:=happ w;simp only[Builtin.append_];simp[run_underlying ht,run_underlying ht',(hT.facts hte).run_sizeOf,asInt,asIntOf,hwr,hneg,typeInfo,hi,hns1,hroom,Addr.add_lit];by_cases h0:m*te.size=0;{simp_all};simp_all};{intro s xs base n cap hs hfs hroom h63 hby;refine⟨z,hzr _,?_⟩;subst hs;(have h1:¬(n+m<=cap):=by omega);have hfit:=growslice_fits (bytes:=te.bytes) hroom (by omega);(have h2:¬(Builtin.nextslicecap (n+m) cap*i.bytes>2^48):=by simp_all);(have hns:¬(281474976710656<Builtin.nextslicecap (n+m) cap*i.bytes):=by omega);(have h63':¬(9223372036854775807<(n:Int)+m):=by simp only[maxLen]at h63;omega);by_cases h0:m*te.size=0;{have hv0:=hmz h0;subst hv0;simp[Builtin.append_,run_underlying ht,run_underlying ht',(hT.facts hte).run_sizeOf,asInt,asIntOf,hwr,hneg,typeInfo,hi,hns1,h1,hns,h63',hfs,h0,hzr,newRow,IntKind.signed,IntKind.bits,Question.forced,grownCap]};{simp[Builtin.append_,run_underlying ht,run_underlying ht',(hT.facts hte).run_sizeOf,asInt,asIntOf,hwr,hneg,typeInfo,hi,hns1,h1,hns,h63',hfs,h0,hzr,hvz,newRow,IntKind.signed,IntKind.bits,Question.forced,grownCap]}};{intro hm;subst hm;simp[Builtin.append_,run_underlying ht,run_underlying ht',(hT.facts hte).run_sizeOf,asInt,asIntOf,typeInfo,hi,IntKind.wrap_i64]}
theorem VA(hT:TOk P T)(ok:Ok T.gl c)(he:cG c e a){cl:Call}(ho:o.op=.call cl)(hc:cl.callee=.builtin .append)(h:aO T e c.H (.call cl)=some (x,H')):dR T P c a o x H':=by simp only[aO,hc]at h;(have hx:execOp a.eval o=(do pure (.value (<-Builtin.append_ cl.argTypes o.type (cl.args.map a.eval))):Sem Next):=by simp[execOp,ho,resolve,hc,invoke,builtin]);split at h;{rename_i s u t t' hargs htys;{split at h;{rename_i ty hty;split at h;{rename_i el hk;split at h;{rename_i te hte;split at h;{rename_i m news hsrc;split at h;{rename_i hcond;obtain⟨q1,q2,q3⟩:=hcond;obtain⟨d,hd,hkd⟩:=(hT.facts hty).desc;rw[hk]at hkd;obtain rfl:=kA hkd;have hrl:=he.opnds hargs;rw[RL]at hrl;obtain⟨y1,ys,hys,hr1,hr2⟩:=hrl;obtain⟨y2,rfl,hr3⟩:=hr2.single;(have hargs':cl.args.map a.eval=#[y1,y2]:=by apply Array.ext';simpa using hys);(have htys':cl.argTypes=#[t,t']:=by apply Array.ext';omega);rw[hargs',htys']at hx;have hone0:∀vs,RL c.ρ c.own c.w news vs->∀v∈vs,v.oneCell'=true:=fun vs hvs=>y8 hvs q3;(have hsrc':∃vs,RL c.ρ c.own c.w news vs/\((m=0\/m*te.bytes<=2^47)->Src P te el t t' o.type y2 m vs c.w):=by unfold aO.srcT at hsrc;cases htt:Nat.beq t t' with|true=>obtain rfl:=Nat.eq_of_beq_eq_true htt;rw[htt,cond_true]at hsrc;obtain⟨hlen,vs,hvs,hfirst⟩:=TX (P:=P) ok hsrc q1 hr3;have hvl:=hvs.length;have hf0:=hfirst m c.w (Nat.le_refl _) (fun _=>rfl);have hf1:=hfirst m c.w.drew (Nat.le_refl _) (fun _=>rfl);have htk:vs.take (m*te.size)=vs:=List.take_of_length_le (by omega);rw[htk]at hf0 hf1;exact⟨vs,hvs,fun _=>YQ hT hte hd hd (by simp) hlen hf0 hf1 (hone0 vs hvs) (by omega)⟩|false=>rw[htt,cond_false]at hsrc;split at hsrc;{rename_i ty2 hty2;obtain⟨d2,hd2,hkd2⟩:=(hT.facts hty2).desc;split at hsrc;{rename_i str hk2;rw[hk2]at hkd2;obtain rfl:=vJ hkd2;cases hs1:Nat.beq te.size 1 with|false=>simp[hs1]at hsrc|true=>have hs1:=Nat.eq_of_beq_eq_true hs1;rw[hs1]at hsrc;simp only[show Nat.beq 1 1=true from rfl,cond_true,Option.some.injEq,Prod.mk.injEq]at hsrc;obtain⟨rfl,rfl⟩:=hsrc;rw[R]at hr3;subst hr3;(have hvs:RL c.ρ c.own c.w (EB str.data.toList) (Lib.strCells str):=by have:=RL.exact (ρ:=c.ρ) (own:=c.own) (w:=c.w) (Lib.strCells str);simpa[EB,Lib.strCells,Function.comp_def]using this);refine⟨Lib.strCells str,hvs,fun _=>YQ hT hte hd hd2 (by intro k;simp) (fun w=>by simp[Builtin.lenOf]) ?_ ?_ (hone0 _ hvs) (by rw[Lib.strCells_length,hs1,Nat.mul_one])⟩;{exact Lib.run_firstCells_string c.w te.size str};{exact Lib.run_firstCells_string c.w.drew te.size str}};{rename_i k2 l hk2;rw[hk2]at hkd2;obtain rfl:=aIo hkd2;split at hsrc;{rename_i hl0;simp only[Option.some.injEq,Prod.mk.injEq]at hsrc;obtain⟨rfl,rfl⟩:=hsrc;rw[R]at hr3;subst hr3;(have hln:((l.toNat:Nat):Int)=l:=by omega);have hvs:RL c.ρ c.own c.w (iX te.zero l.toNat) (List.replicate l.toNat te.zero).flatten:=vR te.zero l.toNat;(have hvl:(List.replicate l.toNat te.zero).flatten.length=l.toNat*te.size:=by rw[hvs.length,q1]);refine⟨_,hvs,fun hbig=>?_⟩;have hz0:=aAq (ty:=o.type) (w:=c.w) (m:=l.toNat) (vs:=(List.replicate l.toNat te.zero).flatten) hT hte hd hd2 (by omega) (fun w=>?_) (hone0 _ hvs) hvl ?_;rw[hln]at hz0;exact hz0;{obtain⟨z,hz,hzc⟩:=l7 (hT.facts hte) w;simp only[Sem.run_bind,hz,Result.andThen_ok,Sem.run_pure,hzc];congr 1;apply Array.ext';rw[<-pJ te.zero (by omega) l.toNat];rfl};{rcases hbig with h|h;{rw[h,Nat.zero_mul];omega};omega}};{cases hsrc}};{cases hsrc}};{cases hsrc});obtain⟨vs,hvs,hsrc'⟩:=hsrc';have hvl:=hvs.length;have hone:=hone0 vs hvs;split at h;{simp only[R]at hr1;subst hr1;split at h;{rename_i hm;subst hm;simp only[Option.some.injEq,Prod.mk.injEq]at h;obtain⟨rfl,rfl⟩:=h;exact dR.mk hx (y:=.slice none 0 0) (c':=c) ((hsrc' (.inl rfl)).nil rfl) rfl (To.refl c) ok (by rw[R])};{rename_i hm;split at h;{rename_i hb;simp only[Option.some.injEq,Prod.mk.injEq]at h;obtain⟨rfl,rfl⟩:=h;obtain⟨z,hz,hrun⟩:=(hsrc' (.inr hb.2)).out (s:=.slice none 0 0) (xs:=[]) rfl (by simp[Builtin.firstCells]) (by omega) (by omega) (by simpa using hb.2);simp only[Nat.zero_add]at hrun;have hge:=grownCap_ge c.w m 0 el;have hle:=grownCap_le_maxLen c.w m 0 el hb.1;obtain⟨z',hz',hzc⟩:=l7 (hT.facts hte) c.w.drew;(obtain rfl:z'=z:=by rw[hz]at hz';simpa[eq_comm]using hz');obtain⟨c',k1,k2,k3,k4,k5,-⟩:=wM (e:=el) (wh:=false) (cs:=news) (xs:=vs) ok (.inr rfl) hvs (cur:=[].toArray++(vs.toArray++Builtin.zeroCells z'.cells (grownCap c.w m 0 el-m))) (by simp) (by simp);refine dR.mk hx (by rw[k2];omega) k1 k3 k4 ?_;rw[R];refine⟨c.w.heap.size,_,_,el,(0,0),k5,rfl,hge,hle,by rw[k2];exact heap_alloc_new c.w.drew _,?_⟩;simp only[Array.size_append,List.size_toArray,List.length_nil,size_zeroCells,hzc,Nat.zero_add,hvl,q1,q2];rw[<-Nat.add_mul];refine Nat.le_of_eq ?_;congr 1;omega};{cases h}}};{rename_i b n sz;split at h;{rename_i k hb;split at h;{rename_i hcd;simp only[Option.some.injEq,Prod.mk.injEq]at h;obtain⟨rfl,rfl⟩:=h;obtain⟨rfl,rfl,d3,d4,d5⟩:=hcd;simp only[R]at hr1;obtain⟨g,cap,cur0,e0,fz0,hg,rfl,hn,hcap,hcur0,hsum⟩:=hr1;obtain⟨cur,xs,hcur,hxs,hlie,hpre,-⟩:=ok.lies hb hg ⟨cur0,e0,fz0,hcur0⟩;rw[hcur]at hcur0;simp only[Option.some.injEq,Obj.cells.injEq]at hcur0;obtain⟨rfl,rfl,-⟩:=hcur0;have hxl:=hxs.length;simp only[Nat.zero_add]at hsum;have hnew:RL c.ρ c.own c.w (k.cs.take (n*te.size)++news) (xs.take (n*te.size)++vs):=(hxs.take _).append hvs;by_cases hroom:n+m<=cap;{(have hfit:n*te.size+vs.length<=cur.size:=by refine Nat.le_trans ?_ hsum;rw[hvl,q1,<-Nat.add_mul];exact Nat.mul_le_mul_right _ hroom);have hrun:=(hsrc' (.inr (by have:=Nat.add_mul n m te.bytes;omega))).inn hcur hroom hfit;(have hpre':xs.take (n*te.size)=cur.toList.take (n*te.size):=by obtain⟨t',ht'⟩:=hpre;rw[<-ht',List.take_append_of_le_length (by omega)]);rw[<-hpre']at hrun;obtain⟨c',k1,k2,k3,k4,k5⟩:=aDT (xs':=xs.take (n*te.size)++vs) (cur':=(xs.take (n*te.size)++vs++cur.toList.drop (n*te.size+vs.length)).toArray) ok hb hg hcur hnew (by simp) (by simp;omega);refine dR.mk hx (by rw[k2];omega) k1 k3 k4 ?_;rw[R];refine⟨g,cap,_,k.e,(0,0),k5,rfl,hroom,hcap,by rw[k2];exact setRow_heap c.w g cur _ k.e (0,0) hcur,?_⟩;simp;omega};{(have hfs:(Builtin.firstCells te.size n (.slice (some ⟨g,0,none⟩) n cap)).run P c.w.drew=.ok (xs.take (n*te.size)).toArray c.w.drew:=by refine run_firstCells_some c.w.drew te.size n ⟨g,0,none⟩ n cap _ (by rw[List.length_take];omega) fun i v hv=>?_;rw[Addr.add_lit];exact hlie.take _ i v hv);obtain⟨z,hz,hrun⟩:=(hsrc' (.inr (by have:=Nat.add_mul n m te.bytes;omega))).out rfl hfs (by omega) d4 d5;have hge:=grownCap_ge c.w (n+m) cap k.e;have hle:=grownCap_le_maxLen c.w (n+m) cap k.e d4;obtain⟨z',hz',hzc⟩:=l7 (hT.facts hte) c.w.drew;(obtain rfl:z'=z:=by rw[hz]at hz';simpa[eq_comm]using hz');obtain⟨t1,o1⟩:=EM ok b;obtain⟨c',k1,k2,k3,k4,k5,-⟩:=wM (e:=k.e) (wh:=false) (cs:=k.cs.take (n*te.size)++news) (xs:=xs.take (n*te.size)++vs) o1 (.inr rfl) hnew (cur:=(xs.take (n*te.size)).toArray++(vs.toArray++Builtin.zeroCells z'.cells (grownCap c.w (n+m) cap k.e-(n+m)))) (by simp) (by simp);refine dR.mk hx (by rw[k2];omega) k1 (t1.trans k3) k4 ?_;rw[R];refine⟨c.w.heap.size,_,_,k.e,(0,0),by simpa using k5,rfl,hge,hle,by rw[k2];exact heap_alloc_new c.w.drew _,?_⟩;(have hx1:min (n*te.size) xs.length=n*te.size:=by omega);simp only[Array.size_append,List.size_toArray,List.length_take,size_zeroCells,hzc,Nat.zero_add,hvl,q1,q2,hx1];rw[<-Nat.add_mul,<-Nat.add_mul];refine Nat.le_of_eq ?_;congr 1;omega}};{cases h}};{cases h}};{cases h}};{cases h}};{cases h}};{cases h}};{cases h}};{cases h}}};{cases h}
theorem yR(hT:TOk P T)(ok:Ok T.gl c)(he:cG c e a){cl:Call}(ho:o.op=.call cl)(hc:cl.callee=.builtin .unsafeString)(h:aO T e c.H (.call cl)=some (x,H')):dR T P c a o x H':=by simp only[aO,hc]at h;(have hx:execOp a.eval o=(do pure (.value (<-Builtin.unsafeString_ cl.argTypes o.type (cl.args.map a.eval))):Sem Next):=by simp[execOp,ho,resolve,hc,invoke,builtin]);split at h;{rename_i p n pt hargs hpt;have hrl:=he.opnds hargs;rw[RL]at hrl;obtain⟨y1,ys,hys,hr1,hr2⟩:=hrl;obtain⟨y2,rfl,hr3⟩:=hr2.single;rw[R]at hr3;subst hr3;(have hargs':cl.args.map a.eval=#[y1,.int .i64 n]:=by apply Array.ext';simp_all);rw[hargs']at hx;(have hdef:∀y1:Value,Builtin.unsafeString_ cl.argTypes o.type #[y1,.int .i64 n]=Builtin.unsafeString_ #[pt,pt] o.type #[y1,.int .i64 n]:=by intro y1;(obtain⟨rest,hrest⟩:∃rest,cl.argTypes=⟨pt::rest⟩:=by cases hat:cl.argTypes with|mk l=>rw[hat]at hpt;cases l with|nil=>simp_all|cons q l=>simp_all);rw[hrest];rfl);unfold aAx at h;split at h;{split at h;{rename_i hn;subst hn;simp only[Option.some.injEq,Prod.mk.injEq]at h;obtain⟨rfl,rfl⟩:=h;rw[R]at hr1;subst hr1;refine dR.mk hx (y:=.string .empty) (c':=c) ?_ rfl (To.refl c) ok (by rw[R]);rw[hdef];exact Lib.run_unsafeString_none c.w pt pt o.type none};simp_all};{rename_i b;split at h;{rename_i ty k hty hb;split at h;{rename_i el hk;split at h;{rename_i te l hte hl;split at h;{rename_i hcond;obtain⟨q1,q2,q3,q4,q5⟩:=hcond;simp only[Option.some.injEq,Prod.mk.injEq]at h;obtain⟨rfl,rfl⟩:=h;obtain⟨d,hd,hkd⟩:=(hT.facts hty).desc;rw[hk]at hkd;obtain rfl:=aFH hkd;rw[R]at hr1;obtain⟨g,hg,rfl,cur0,e0,fz0,hcur0⟩:=hr1;obtain⟨cur,xs,hcur,hxs,hlie,hpre,-⟩:=ok.lies hb hg ⟨cur0,e0,fz0,hcur0⟩;have hxl:=hxs.length;have hb1:=tR (hxs.take n.toNat) hl;(have hll:l.length<=xs.length:=by have:=congrArg List.length hb1;simp only[List.length_take,Lib.byteCells_length]at this;omega);(have hlc:xs.length<=cur.size:=by obtain⟨t',ht'⟩:=hpre;have:=congrArg List.length ht';simp only[List.length_append,Array.length_toList]at this;omega);obtain⟨i,z,hi,his,-⟩:=(hT.facts hte).info;(have hcells:P.cellsOf el=1:=by unfold Program.cellsOf;simp_all);(have hsh:c.w.shape? g=some (el,cur.size):=by subst q2;simp[World.shape?,hcur]);(have hne:l≠[]:=by rintro rfl;simp at q4;omega);(have hnl:n=(l.length:Int):=by omega);have hrun:=Lib.run_unsafeString_row c.w pt pt o.type el hd hcells g cur.size hsh l hne (by omega) (by simpa[maxLen]using q5) (fun j u hj=>by rw[Addr.add_lit];refine hlie j _ ?_;(have h9:(xs.take n.toNat)[j]?=some (.int .u8 u.toNat):=by rw[hb1];simp[Lib.byteCells,hj]);rw[List.getElem?_take]at h9;split at h9;{omega};{cases h9});rw[<-hnl]at hrun;obtain⟨t1,o1⟩:=UM ok hb hg hcur 0 l.length (by omega);refine dR.mk hx (y:=.string ⟨l.toArray⟩) (c':=⟨c.ρ,c.own,c.H.set b none,c.w.freeze ⟨g,0,none⟩ l.length⟩) ?_ rfl t1 o1 (by rw[R]);rw[hdef];omega};simp_all};simp_all};simp_all};simp_all};simp_all};simp_all
end
