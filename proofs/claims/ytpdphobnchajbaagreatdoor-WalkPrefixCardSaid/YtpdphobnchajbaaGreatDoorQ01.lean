/- A law for a region that draws its order: its first k operations compute, read memory and make new memory: each of them is looked at once, alone, and whatever order is drawn serves; what is behind them stands in one forced order and is walked as it stands. In two forms: plain, and inside a fence. Conditions: a program under 'wide'; among the first k every slot is written once, and what an operation looks at is written by operations that its edges put ahead of it; each later one has all before it among its ancestors. -/
import Derived.WalkKit
import Derived.Orders
import Derived.OrdersIn
import Derived.TacticsIn
import Derived.Below
import Derived.Laws.AppendOwn
import Derived.WalkSpells
import Derived.Lib.UnsafeStr
import Derived.Laws.BytesArg
import Derived.Laws.Tables
import Derived.Laws.Slices
import Derived.MapKept
import Derived.Laws.MakeOwn
import Derived.RangeFuncRecord
set_option linter.unusedSimpArgs false
set_option linter.unusedVariables false
namespace Go.Proofs.YtpdphobnchajbaaGreatDoor.Rel
open Go Go.RowKit
variable{P:Program}{ops:List Oper}
abbrev Grow(w w':World):Prop:=Below w.heap.size w w'
theorem Grow.refl(w:World):Grow w w:=Below.refl _ _
theorem Grow.trans{a b c:World}(h:Grow a b)(k:Grow b c):Grow a c:=Below.trans h (Below.mono k h.size)
theorem Grow.drew(w:World):Grow w w.drew:=(Below.refl _ _).drew
theorem Grow.below{w w':World}{B:Nat}(h:Grow w w')(hB:B≤w.heap.size):Below B w w':=Below.mono h hB
theorem Grow.size{w w':World}(h:Grow w w'):w.heap.size≤w'.heap.size:=Below.size h
theorem Grow.cell{w w':World}(h:Grow w w'){b o:Nat}(hb:b<w.heap.size):w'.cell? ⟨b,o,none⟩=w.cell? ⟨b,o,none⟩:=Below.cell (p:=⟨b,o,none⟩) h hb
theorem Grow.frozen{w w':World}(h:Grow w w'){b o:Nat}(hb:b<w.heap.size):w'.frozen? ⟨b,o,none⟩=w.frozen? ⟨b,o,none⟩:=Below.frozen (p:=⟨b,o,none⟩) h hb
def writer:List Oper→Nat→Tmp→Option Nat
 |[],_,_=>none
 |o::l,i,t=>if o.dst=some t then some i else writer l (i+1) t
def preds(o:Oper):List Nat:=(o.after.toList.filter (Region.binds .any)).map (·.on)
def masks:List Oper→List Nat→List Nat
 |[],acc=>acc
 |o::l,acc=>masks l (acc++[(preds o).foldl (fun m p=>m ||| (1 <<< p) ||| acc.getD p 0) 0])
def ancOk(ops:List Oper)(M:List Nat):Bool :=
 (List.range ops.length).all fun i =>
  match ops[i]? with
  |none=>false
  |some o=>decide (M.getD i 0<2 ^ i)&&(preds o).all (fun p=>decide (p<i))&&(List.range i).all fun j=>!(M.getD i 0).testBit j||(preds o).any fun p=>p==j||(M.getD p 0).testBit j
def forced(ops:List Oper)(M:List Nat)(k:Nat):Bool :=
 (List.range ops.length).all fun i=>decide (i<k)||(List.range i).all fun j=>(M.getD i 0).testBit j
def fine(ops:List Oper)(n:Nat)(k:Nat):Bool :=
 decide (k≤ops.length)&&ancOk ops (masks ops [])&&forced ops (masks ops []) k &&
 (List.range k).all fun i =>
  match ops[i]? with
  |none=>false
  |some o =>
   (o.looksAt ops.toArray).all (fun t=>match writer (ops.take k) 0 t with
    |none=>true
    |some j=>(preds o).contains j) &&
   (match o.dst with|none=>false|some d=>decide (d<n)&&writer (ops.take k) 0 d==some i)
theorem writer_some:∀{l:List Oper} {k i:Nat} {t:Tmp},writer l k t=some i→k≤i∧∃ o,l[i-k]?=some o∧o.dst=some t
 |[],_,_,_,h=>by simp[writer]at h
 |o::l,k,i,t,h=>by
  unfold writer at h
  split at h
  ·rename_i hd
   obtain rfl:=Option.some.inj h
   exact⟨Nat.le_refl _,o,by simp,hd⟩
  ·obtain⟨h1,o',h2,h3⟩:=writer_some h
   refine⟨by omega,o',?_,h3⟩
   have:i-k=(i-(k+1))+1:=by omega
   rw[this]
   simpa using h2
theorem writer_none:∀{l:List Oper} {k:Nat} {t:Tmp},writer l k t=none→∀ o∈l,o.dst≠some t
 |[],_,_,_,_,h=>by cases h
 |o::l,k,t,h,o',ho=>by
  unfold writer at h
  split at h
  ·cases h
  ·rename_i hd
   cases ho with
   |head=>exact hd
   |tail _ hm=>exact writer_none h o' hm
theorem CB{o:Oper}{p:Nat}:p∈preds o↔∃ e∈o.after,Region.binds .any e=true∧e.on=p:=by
 unfold preds
 rw[List.mem_map]
 constructor
 ·rintro⟨e,he,rfl⟩
  obtain⟨h1,h2⟩:=List.mem_filter.1 he
  exact⟨e,Array.mem_toList_iff.1 h1,h2,rfl⟩
 ·rintro⟨e,h1,h2,rfl⟩
  exact⟨e,List.mem_filter.2 ⟨Array.mem_toList_iff.2 h1,h2⟩,rfl⟩
theorem lt_of_get{α:Type}{l:List α}{i:Nat}{o:α}(h:l[i]?=some o):i<l.length:=(List.getElem?_eq_some_iff.1 h).1
theorem ancOk_at{M:List Nat}{i:Nat}{o:Oper}(h:ancOk ops M=true)(ho:ops[i]?=some o) :
  (∀ p∈preds o,p<i)∧∀ j,(M.getD i 0).testBit j=true→j<i∧∃ p∈preds o,p=j∨(M.getD p 0).testBit j=true:=by
 have h1:=List.all_eq_true.1 h i (List.mem_range.2 (lt_of_get ho))
 simp only[ho,Bool.and_eq_true,decide_eq_true_eq]at h1
 obtain⟨⟨h0,h2⟩,h3⟩:=h1
 refine⟨fun p hp=>by simpa using List.all_eq_true.1 h2 p hp,fun j hb=>?_⟩
 have hj:j<i:=by
  rcases Nat.lt_or_ge j i with h'|h'
  ·exact h'
  ·have:=Nat.testBit_lt_two_pow (Nat.lt_of_lt_of_le h0 (Nat.pow_le_pow_right (by omega) h'))
   rw[hb]at this
   cases this
 have:=List.all_eq_true.1 h3 j (List.mem_range.2 hj)
 rw[hb]at this
 simp only[Bool.not_true,Bool.false_or,List.any_eq_true,Bool.or_eq_true,beq_iff_eq]at this
 exact⟨hj,this⟩
def Closed(ops:List Oper)(listed:Array Bool):Prop:=∀ i o,ops[i]?=some o→listed.getD i true=true→∀ p∈preds o,listed.getD p true=true
theorem anc_listed{M:List Nat}{listed:Array Bool}(h:ancOk ops M=true)(hc:Closed ops listed):∀(i:Nat) (o:Oper),ops[i]?=some o→(∀ p∈preds o,listed.getD p true=true) →
  ∀ j,(M.getD i 0).testBit j=true→listed.getD j true=true:=by
 intro i
 induction i using Nat.strongRecOn with
 |ind i ih =>
  intro o ho hp j hb
  obtain⟨h1,h2⟩:=ancOk_at h ho
  obtain⟨hj,p,hpm,hpj⟩:=h2 j hb
  rcases hpj with rfl|hpj
  ·exact hp p hpm
  ·have hlt:=h1 p hpm
   have hlen:p<ops.length:=by have:=lt_of_get ho;omega
   have hop:ops[p]?=some ops[p]:=List.getElem?_eq_getElem hlen
   exact ih p hlt _ hop (fun q hq=>hc p _ hop (hp p hpm) q hq) j hpj
theorem fine_at{n k i:Nat}{o:Oper}(h:fine ops n k=true)(ho:ops[i]?=some o)(hi:i<k) :
  (∀ t∈o.looksAt ops.toArray,∀ j,writer (ops.take k) 0 t=some j→j∈preds o)∧(∃ d,o.dst=some d∧d<n∧writer (ops.take k) 0 d=some i):=by
 unfold fine at h
 simp only[Bool.and_eq_true]at h
 have h1:=List.all_eq_true.1 h.2 i (List.mem_range.2 hi)
 simp only[ho,Bool.and_eq_true]at h1
 obtain⟨h2,h4⟩:=h1
 refine⟨fun t ht j hj=>?_,?_⟩
 ·have:=List.all_eq_true.1 h2 t ht
  simp only[hj]at this
  simpa using this
 ·cases hd:o.dst with
  |none=>simp[hd]at h4
  |some d =>
   simp only[hd,Bool.and_eq_true,decide_eq_true_eq,beq_iff_eq]at h4
   exact⟨d,rfl,h4⟩
theorem fine_le{n k:Nat}(h:fine ops n k=true):k≤ops.length:=by
 unfold fine at h
 simp only[Bool.and_eq_true,decide_eq_true_eq]at h
 exact h.1.1.1
theorem fine_anc{n k:Nat}(h:fine ops n k=true):ancOk ops (masks ops [])=true:=by
 unfold fine at h
 simp only[Bool.and_eq_true]at h
 exact h.1.1.2
theorem LY{n k:Nat}(h:fine ops n k=true){i:Nat}(hi:i<ops.length)(hk:k≤i):∀ j,j<i→((masks ops []).getD i 0).testBit j=true:=by
 unfold fine at h
 simp only[Bool.and_eq_true]at h
 have:=List.all_eq_true.1 h.1.2 i (List.mem_range.2 hi)
 intro j hj
 simp only[Bool.or_eq_true,decide_eq_true_eq]at this
 rcases this with h'|h'
 ·omega
 ·exact List.all_eq_true.1 h' j (List.mem_range.2 hj)
theorem ready_spec{listed:Array Bool}{i:Nat}:i∈Region.ready .any ops.toArray listed↔listed.getD i true=false∧∃ o,ops[i]?=some o∧∀ p∈preds o,listed.getD p false=true:=by
 rw[mem_ready]
 constructor
 ·rintro⟨h1,o,h2,h3⟩
  refine⟨h1,o,by simpa using h2,fun p hp=>?_⟩
  obtain⟨e,he,hb,rfl⟩:=CB.1 hp
  exact h3 e he hb
 ·rintro⟨h1,o,h2,h3⟩
  exact⟨h1,o,by simpa using h2,fun e he hb=>h3 _ (CB.2 ⟨e,he,hb,rfl⟩)⟩
theorem getD_mono{listed:Array Bool}{p:Nat}(h:listed.getD p false=true):listed.getD p true=true:=by
 simp only[Array.getD_eq_getD_getElem?]at *
 cases hp:listed[p]? with
 |none=>simp
 |some b=>simpa[hp]using h
theorem aMJ{listed:Array Bool}{p:Nat}(h:listed.getD p true=true)(hp:p<listed.size):listed.getD p false=true:=by
 simpa[Array.getD_eq_getD_getElem?,Array.getElem?_eq_getElem hp]using h
theorem lQ{n k:Nat}{listed:Array Bool}{i:Nat}(hf:fine ops n k=true)(hc:Closed ops listed)(hi:i∈Region.ready .any ops.toArray listed)(hk:k≤i):∀ j,j<i→listed.getD j true=true:=by
 obtain⟨-,o,ho,hp⟩:=ready_spec.1 hi
 intro j hj
 exact anc_listed (fine_anc hf) hc i o ho (fun p hpm=>getD_mono (hp p hpm)) j (LY hf (lt_of_get ho) hk j hj)
theorem ready_nil{M:List Nat}{listed:Array Bool}(hsz:listed.size=ops.length)(hf:ancOk ops M=true)(hr:Region.ready .any ops.toArray listed=[]):∀ j,listed.getD j true=true:=by
 intro j
 induction j using Nat.strongRecOn with
 |ind j ih =>
  rcases Nat.lt_or_ge j ops.length with hj|hj
  ·cases hl:listed.getD j true with
   |true=>rfl
   |false =>
    exfalso
    have ho:ops[j]?=some ops[j]:=List.getElem?_eq_getElem hj
    have:j∈Region.ready .any ops.toArray listed:=ready_spec.2 ⟨hl,ops[j],ho,fun p hp=>by
     have hlt:=(ancOk_at hf ho).1 p hp
     exact aMJ (ih p hlt) (by omega)⟩
    rw[hr]at this
    cases this
  ·simp[Array.getD_eq_getD_getElem?,Array.getElem?_eq_none (by omega:listed.size≤j)]
def aCs(P:Program)(G:World→World→Prop)(R:Value→World→Prop)(w:World):Result Next→Prop
 |.ok (.value v) w'=>G w w'∧R v w'
 |.ok .skip w'=>G w w'∧R undef w'
 |.ok (.enter f args) w'=>Calls P f args w' fun e w''=>∃ v,e=.returned v∧G w w''∧R v w''
 |_=>False
def slotFact(pre:List Oper)(F:List (Value→World→Prop))(a a':Act)(w':World)(t:Tmp):Prop :=
 match writer pre 0 t with
 |some j=>(F.getD j fun _ _=>True) (a'.tmps.getD t undef) w'
 |none=>a'.tmps.getD t undef=a.tmps.getD t undef
def aSC(P:Program)(G:World→World→Prop)(ops:List Oper)(k:Nat)(F:List (Value→World→Prop))(a:Act)(w:World)(i:Nat)(o:Oper):Prop :=
 ∀(a':Act) (w':World),G w w'→a'.tmps.size=a.tmps.size→(∀ t,(∀ j,writer (ops.take k) 0 t=some j→j∈preds o)→slotFact (ops.take k) F a a' w' t) →
  if Region.wanted o (yielded ops.toArray a'.tmps)then aCs P G (F.getD i fun _ _=>True) w' ((execOp a'.eval o).run P w')else(F.getD i fun _ _=>True) undef w'
def putAll(a:Act):List Oper→List Value→Act
 |o::l,v::vs=>putAll (a.put o.dst v) l vs
 |_,_=>a
def forAllV:List (Value→World→Prop)→World→(List Value→Prop)→Prop
 |[],_,K=>K []
 |R::Rs,w,K=>∀ v,R v w→forAllV Rs w fun vs=>K (v::vs)
theorem AJ:∀{F:List (Value→World→Prop)} {w:World} {K:List Value→Prop},forAllV F w K→∀ vs:List Value,vs.length=F.length→(∀(i:Nat) (R:Value→World→Prop) (v:Value),F[i]?=some R→vs[i]?=some v→R v w)→K vs
 |[],_,_,h,[],_,_=>h
 |[],_,_,_,_::_,hl,_=>by simp at hl
 |_::_,_,_,_,[],hl,_=>by simp at hl
 |R::Rs,w,K,h,v::vs,hl,hR=>AJ (h v (hR 0 R v rfl rfl)) vs (by simpa using hl) (fun i R' v' h1 h2=>hR (i+1) R' v' (by simpa using h1) (by simpa using h2))
structure Inv(G:World→World→Prop)(ops:List Oper)(k:Nat)(F:List (Value→World→Prop))(a:Act)(w:World)(listed:Array Bool)(a':Act)(w':World):Prop where
 grow:G w w'
 size:a'.tmps.size=a.tmps.size
 defers:a'.defers=a.defers
 facts:∀ j o t,j<k→ops[j]?=some o→o.dst=some t→listed.getD j true=true→(F.getD j fun _ _=>True) (a'.tmps.getD t undef) w'
 rest:∀ t,(∀ j o,j<k→ops[j]?=some o→o.dst=some t→listed.getD j true=false)→a'.tmps.getD t undef=a.tmps.getD t undef
 lsize:listed.size=ops.length
 closed:Closed ops listed
 late:∀ j,k≤j→j<ops.length→listed.getD j true=false
theorem getD_put{a:Act}{t d:Tmp}{v:Value}(hd:d<a.tmps.size):(a.put (some d) v).tmps.getD t undef=if t=d then v else a.tmps.getD t undef:=by
 simp only[Act.put,Array.getD_eq_getD_getElem?,Array.getElem?_setIfInBounds]
 by_cases h:t=d
 ·subst h;simp[hd]
 ·simp[h,Ne.symm h]
theorem size_put{a:Act}{d:Option Tmp}{v:Value}:(a.put d v).tmps.size=a.tmps.size:=by cases d<;>simp[Act.put]
theorem defers_put{a:Act}{d:Option Tmp}{v:Value}:(a.put d v).defers=a.defers:=by cases d<;>simp[Act.put]
theorem getD_set_true{listed:Array Bool}{i j:Nat}(h:(listed.setIfInBounds i true).getD j true=false):j≠i∧listed.getD j true=false:=by
 simp only[Array.getD_eq_getD_getElem?,Array.getElem?_setIfInBounds]at *
 by_cases hij:i=j
 ·subst hij
  rw[if_pos rfl]at h
  split at h<;>simp_all
 ·simp only[hij,if_false]at h
  exact⟨fun e=>hij e.symm,h⟩
theorem getD_set_other{listed:Array Bool}{i j:Nat}(h:(listed.setIfInBounds i true).getD j true=true)(hj:j≠i):listed.getD j true=true:=by
 simp only[Array.getD_eq_getD_getElem?,Array.getElem?_setIfInBounds]at *
 rwa [if_neg (Ne.symm hj)]at h
theorem getD_set_keeps{listed:Array Bool}{i j:Nat}(h:listed.getD j true=true):(listed.setIfInBounds i true).getD j true=true:=by
 cases h':(listed.setIfInBounds i true).getD j true with
 |true=>rfl
 |false=>rw[(getD_set_true h').2]at h;cases h
theorem closed_set{listed:Array Bool}{i:Nat}(hc:Closed ops listed)(hi:i∈Region.ready .any ops.toArray listed):Closed ops (listed.setIfInBounds i true):=by
 obtain⟨-,o,ho,hp⟩:=ready_spec.1 hi
 intro j oj hj hl p hpm
 by_cases hji:j=i
 ·subst hji
  obtain rfl:=Option.some.inj (ho.symm.trans hj)
  exact getD_set_keeps (getD_mono (hp p hpm))
 ·exact getD_set_keeps (hc j oj hj (getD_set_other hl hji) p hpm)
theorem take_get{k i:Nat}{o:Oper}(h:(ops.take k)[i]?=some o):ops[i]?=some o∧i<k:=by
 have h1:=lt_of_get h
 simp at h1
 have h2:i<k:=by omega
 exact⟨by rwa [List.getElem?_take_of_lt h2]at h,h2⟩
theorem Inv.step{G:World→World→Prop}{k:Nat}{F:List (Value→World→Prop)}{a a':Act}{w w' w'':World}{listed:Array Bool}{i:Nat}{o:Oper}{v:Value}
  (hst:∀ i v w1 w2,G w w1→G w1 w2→(F.getD i fun _ _=>True) v w1→(F.getD i fun _ _=>True) v w2) (htr:∀{a b c},G a b→G b c→G a c)
  (hf:fine ops a.tmps.size k=true) (ho:ops[i]?=some o) (hik:i<k) (hi:i∈Region.ready .any ops.toArray listed) (h:Inv G ops k F a w listed a' w') (hG:G w' w'') (hR:(F.getD i fun _ _=>True) v w'') :
  Inv G ops k F a w (listed.setIfInBounds i true) (a'.put o.dst v) w'':=by
 obtain⟨-,d,hd,hdn,hdw⟩:=fine_at hf ho hik
 rw[hd]
 have hlt:d<a'.tmps.size:=by rw[h.size];exact hdn
 refine⟨htr h.grow hG,by rw[size_put,h.size],by rw[defers_put,h.defers],fun j oj t hjk hj ht hl=>?_,fun t ht=>?_,by simpa using h.lsize,closed_set h.closed hi,fun j hj hjl=>?_⟩
 ·by_cases hji:j=i
  ·subst hji
   obtain rfl:=Option.some.inj (ho.symm.trans hj)
   obtain rfl:=Option.some.inj (hd.symm.trans ht)
   simp only[getD_put hlt,if_true]
   exact hR
  ·have h1:=hst j _ w' w'' h.grow hG (h.facts j oj t hjk hj ht (getD_set_other hl hji))
   rw[getD_put hlt,if_neg]
   ·exact h1
   ·intro e
    subst e
    obtain⟨-,d',hd',-,hdw'⟩:=fine_at hf hj hjk
    obtain rfl:=Option.some.inj (ht.symm.trans hd')
    exact hji (Option.some.inj (hdw'.symm.trans hdw))
 ·have hold:=h.rest t fun j oj hjk hj hdj=>(getD_set_true (ht j oj hjk hj hdj)).2
  rw[getD_put hlt,if_neg]
  ·exact hold
  ·intro e
   subst e
   exact absurd rfl (getD_set_true (ht i o hik ho hd)).1
 ·cases h':(listed.setIfInBounds i true).getD j true with
  |false=>rfl
  |true =>
   have:=getD_set_other h' (by omega)
   rw[h.late j hj hjl]at this
   cases this
theorem Inv.seen{G:World→World→Prop}{k:Nat}{F:List (Value→World→Prop)}{a a':Act}{w w':World}{listed:Array Bool}{i:Nat}{o:Oper}
  (hf:fine ops a.tmps.size k=true) (ho:ops[i]?=some o) (hik:i<k) (hr:i∈Region.ready .any ops.toArray listed) (h:Inv G ops k F a w listed a' w'):∀ t,(∀ j,writer (ops.take k) 0 t=some j→j∈preds o)→slotFact (ops.take k) F a a' w' t:=by
 intro t h1
 obtain⟨-,o',ho',hall⟩:=ready_spec.1 hr
 obtain rfl:=Option.some.inj (ho'.symm.trans ho)
 unfold slotFact
 cases hw:writer (ops.take k) 0 t with
 |none =>
  refine h.rest t fun j oj hjk hj hd=>absurd hd (writer_none hw oj ?_)
  exact List.mem_of_getElem? (by rw[List.getElem?_take_of_lt hjk];exact hj:(ops.take k)[j]?=some oj)
 |some j =>
  obtain⟨-,oj,hoj,hd⟩:=writer_some hw
  obtain⟨hoj',hjk⟩:=take_get (by simpa using hoj:(ops.take k)[j]?=some oj)
  exact h.facts j oj t hjk hoj' hd (getD_mono (hall j (h1 j hw)))
theorem size_of_getD{listed:Array Bool}{i:Nat}(hl:listed.getD i true=false):i<listed.size:=by
 rcases Nat.lt_or_ge i listed.size with h'|h'
 ·exact h'
 ·simp[Array.getD_eq_getD_getElem?,Array.getElem?_eq_none h']at hl
theorem count_set{listed:Array Bool}{i:Nat}(hl:listed.getD i true=false):(listed.setIfInBounds i true).toList.count false+1=listed.toList.count false:=by
 have hlt:=size_of_getD hl
 have hi':listed[i]=false:=by simpa[Array.getD_eq_getD_getElem?,Array.getElem?_eq_getElem hlt]using hl
 have hl2:i<listed.toList.length:=by simpa using hlt
 have hmem:false∈listed.toList:=Array.mem_toList_iff.2 (by rw[← hi'];exact Array.getElem_mem hlt)
 have:=List.count_pos_iff.2 hmem
 rw[Array.toList_setIfInBounds,List.count_set (h:=hl2),if_pos (by simp[hi']),if_neg (by decide)]
 omega
theorem count_zero{listed:Array Bool}(hc:listed.toList.count false≤0):Region.ready .any ops.toArray listed=[]:=by
 refine List.eq_nil_iff_forall_not_mem.2 fun j hj=>?_
 obtain⟨hl,-⟩:=ready_spec.1 hj
 have:=count_set hl
 omega
def lY(a':Act)(ops:List Oper):List Value:=ops.map fun o=>match o.dst with|some t=>a'.tmps.getD t undef|none=>undef
theorem wO:∀(l:List Oper) (vs:List Value) (a:Act) (t:Tmp),vs.length=l.length→(∀ o∈l,∀ d,o.dst=some d→d<a.tmps.size) →
  (putAll a l vs).tmps.size=a.tmps.size∧(putAll a l vs).defers=a.defers ∧
  ((∀ o∈l,o.dst≠some t)→(putAll a l vs).tmps.getD t undef=a.tmps.getD t undef) ∧
  (∀(i:Nat) o v,l[i]?=some o→vs[i]?=some v→o.dst=some t→(∀(j:Nat) o',l[j]?=some o'→o'.dst=some t→j=i)→(putAll a l vs).tmps.getD t undef=v)
 |[],[],a,t,_,_=>⟨rfl,rfl,fun _=>rfl,fun i o v h=>by simp at h⟩
 |[],_::_,_,_,h,_=>by simp at h
 |_::_,[],_,_,h,_=>by simp at h
 |o::l,v::vs,a,t,hl,hd=>by
  have ih:=wO l vs (a.put o.dst v) t (by simpa using hl) (fun o' ho' d hd'=>by rw[size_put];exact hd o' (.tail _ ho') d hd')
  obtain⟨i1,i2,i3,i4⟩:=ih
  refine⟨by rw[putAll,i1,size_put],by rw[putAll,i2,defers_put],fun hno=>?_,fun i oi vi hoi hvi hdi huniq=>?_⟩
  ·rw[putAll,i3 fun o' ho'=>hno o' (.tail _ ho')]
   cases hdd:o.dst with
   |none=>rfl
   |some d =>
    rw[getD_put (hd o (.head _) d hdd),if_neg]
    rintro rfl
    exact hno o (.head _) hdd
  ·cases i with
   |zero =>
    simp at hoi hvi
    subst hoi hvi
    rw[putAll,i3]
    ·rw[hdi,getD_put (hd o (.head _) t hdi),if_pos rfl]
    ·intro o' ho' hd'
     obtain⟨k,hk⟩:=List.mem_iff_getElem?.1 ho'
     have:=huniq (k+1) o' (by simpa using hk) hd'
     omega
   |succ i =>
    rw[putAll]
    refine i4 i oi vi (by simpa using hoi) (by simpa using hvi) hdi fun j o' hj hd'=>?_
    have:=huniq (j+1) o' (by simpa using hj) hd'
    omega
theorem Inv.full{G:World→World→Prop}{k:Nat}{F:List (Value→World→Prop)}{a a':Act}{w w':World}{listed:Array Bool}(hf:fine ops a.tmps.size k=true)(hlen:F.length=k)
  (I:Inv G ops k F a w listed a' w') (hall:∀ j,j<k→listed.getD j true=true) {K:Act→Prop} (hQ:forAllV F w' fun vs=>K (putAll a (ops.take k) vs)):K a':=by
 have hk:=fine_le hf
 have hv:=AJ hQ (lY a' (ops.take k)) (by simp[lY,hlen];omega) ?_
 ·have e:putAll a (ops.take k) (lY a' (ops.take k))=a':=by
   have hd:∀ o∈ops.take k,∀ d,o.dst=some d→d<a.tmps.size:=fun o ho d hd=>by
    obtain⟨i,hi⟩:=List.mem_iff_getElem?.1 ho
    obtain⟨hi',hik⟩:=take_get hi
    obtain⟨-,d',hd',hdn,-⟩:=fine_at hf hi' hik
    obtain rfl:=Option.some.inj (hd.symm.trans hd')
    exact hdn
   have hs:=fun t=>wO (ops.take k) (lY a' (ops.take k)) a t (by simp[lY]) hd
   have e1:(putAll a (ops.take k) (lY a' (ops.take k))).tmps=a'.tmps:=by
    refine Array.ext (by rw[(hs 0).1,I.size]) fun t h1 h2=>?_
    have hg:(putAll a (ops.take k) (lY a' (ops.take k))).tmps.getD t undef=a'.tmps.getD t undef:=by
     cases hw:writer (ops.take k) 0 t with
     |none =>
      rw[(hs t).2.2.1 (writer_none hw),I.rest t fun j o hjk hj hd'=>absurd hd' (writer_none hw o (List.mem_of_getElem? (by rw[List.getElem?_take_of_lt hjk];exact hj:(ops.take k)[j]?=some o)))]
     |some i =>
      obtain⟨-,o,ho,hdo⟩:=writer_some hw
      have ho1:(ops.take k)[i]?=some o:=by simpa using ho
      refine(hs t).2.2.2 i o _ ho1 ?_ hdo fun j o' hj hd'=>?_
      ·simp only[lY,List.getElem?_map,ho1,Option.map_some,hdo]
      ·obtain⟨hj',hjk⟩:=take_get hj
       obtain⟨-,d',hd'',-,hw'⟩:=fine_at hf hj' hjk
       obtain rfl:=Option.some.inj (hd'.symm.trans hd'')
       rw[hw]at hw'
       exact(Option.some.inj hw').symm
    simpa[Array.getD_eq_getD_getElem?,h1,h2]using hg
   have e2:(putAll a (ops.take k) (lY a' (ops.take k))).defers=a'.defers:=by rw[(hs 0).2.1,I.defers]
   cases hp:putAll a (ops.take k) (lY a' (ops.take k))
   cases a'
   simp_all
  rwa [e]at hv
 ·intro i R v hR hvi
  have hlt:i<k:=by
   have:=lt_of_get hR
   omega
  have hio:i<ops.length:=by omega
  have ho:ops[i]?=some ops[i]:=List.getElem?_eq_getElem hio
  obtain⟨-,d,hd,-⟩:=fine_at hf ho hlt
  have:=I.facts i ops[i] d hlt ho hd (hall i hlt)
  simp only[List.getD_eq_getElem?_getD,hR,Option.getD_some]at this
  have ho1:(ops.take k)[i]?=some ops[i]:=by rw[List.getElem?_take_of_lt hlt];exact ho
  simp only[lY,List.getElem?_map,ho1,Option.map_some,Option.some.injEq,hd]at hvi
  rw[← hvi]
  exact this
theorem Inv.start{G:World→World→Prop}{k:Nat}{F:List (Value→World→Prop)}{a:Act}{w w':World}(hG:G w w'):Inv G ops k F a w (Array.replicate ops.length false) a w' :=
 ⟨hG,rfl,rfl,fun j o t hj ho _ hl=>by have:=lt_of_get ho;simp[this]at hl,fun t _=>rfl,by simp,fun i o ho hl=>by have:=lt_of_get ho;simp[this]at hl,fun j _ hj=>by simp[hj]⟩
theorem count_start(n:Nat):(Array.replicate n false).toList.count false≤n:=by simp
structure Rec where
 looks:List (Tmp×Option Nat)
 guard:Option (Tmp×Bool)
def dZ(ops:List Oper)(k:Nat)(D:List Rec):Bool :=
 decide (D.length=k)&&(List.range k).all fun i =>
  match ops[i]?,D[i]? with
  |some o,some d =>
   d.looks.all (fun(t,j)=>writer (ops.take k) 0 t==j&&(match j with|none=>true|some j=>(preds o).contains j)) &&
   (match o.guard,d.guard with
    |none,none=>true
    |some (g,b),some (t,b')=>(b==b')&&(ops[g]?).bind (·.dst)==some t
    |_,_=>false)
  |_,_=>false
def aFl(F:List (Value→World→Prop))(a a':Act)(w':World):List (Tmp×Option Nat)→Prop→Prop
 |[],Q=>Q
 |(t,none)::l,Q=>a'.tmps.getD t undef=a.tmps.getD t undef→aFl F a a' w' l Q
 |(t,some j)::l,Q=>(F.getD j fun _ _=>True) (a'.tmps.getD t undef) w'→aFl F a a' w' l Q
def aHW(a':Act):Option (Tmp×Bool)→Prop→Prop→Prop
 |none,Q,_=>Q
 |some (t,b),Q,Q'=>∃ b':Bool,a'.tmps.getD t undef=.bool b'∧(b'=b→Q)∧(b'≠b→Q')
theorem aH0{G:World→World→Prop}{R:Value→World→Prop}{i:Nat}{o:Oper}{a':Act}{w':World}{K:Act→World→Prop}{Q:Exit→Act→World→Prop}(ho:ops[i]?=some o)(hrefl:G w' w')
  (hgo:if Region.wanted o (yielded ops.toArray a'.tmps)then aCs P G R w' ((execOp a'.eval o).run P w')else R undef w') (hK:∀ v w'',G w' w''→R v w''→K (a'.put o.dst v) w''):wpOp P ops.toArray Q i K a' w':=by
 unfold wpOp
 have ho':ops.toArray[i]?=some o:=by simpa using ho
 simp only[ho']
 split
 ·rename_i hw
  rw[if_pos hw]at hgo
  refine .inl ?_
  unfold Oper.wp
  generalize (execOp a'.eval o).run P w'=r at hgo ⊢
  cases r with
  |ok n w2 =>
   cases n<;>simp only[aCs]at hgo<;>simp only[Oper.upon]
   case value v=>exact hK _ _ hgo.1 hgo.2
   case skip=>exact hK _ _ hgo.1 hgo.2
   case enter f args=>exact hgo.mono fun e w'' ⟨v,he,hG,hR⟩=>by subst he;exact hK _ _ hG hR
  |halt x w2=>simp only[aCs]at hgo
 ·rename_i hw
  rw[if_neg hw]at hgo
  exact hK _ _ hrefl hgo
theorem GK{m:Nat}{o:Oper}{Q:Exit→Act→World→Prop}{a':Act}{w':World}(ho:ops[m]?=some o)(h:wpList P ops.toArray Q (ops.drop m) a' w') :
  wpOp P ops.toArray Q m (wpList P ops.toArray Q (ops.drop (m+1))) a' w':=by
 have hlt:=lt_of_get ho
 have e:ops.drop m=o::ops.drop (m+1):=by
  rw[List.drop_eq_getElem_cons hlt]
  congr 1
  exact Option.some.inj ((List.getElem?_eq_getElem hlt).symm.trans ho)
 rw[e]at h
 unfold wpOp
 have ho':ops.toArray[m]?=some o:=by simpa using ho
 simp only[ho']
 exact h
theorem NB{n k:Nat}{Q:Exit→Act→World→Prop}(hf:fine ops n k=true):∀(fuel m:Nat) (listed:Array Bool) (a':Act) (w':World),k≤m→listed.size=ops.length→Closed ops listed→listed.toList.count false≤fuel →
  (∀ j,j<m→listed.getD j true=true)→(∀ j,m≤j→j<ops.length→listed.getD j true=false)→wpList P ops.toArray Q (ops.drop m) a' w'→wpAny P .any ops.toArray Q fuel listed a' w':=by
 have hend:∀(m:Nat) (listed:Array Bool) (a':Act) (w':World),listed.size=ops.length→(∀ j,m≤j→j<ops.length→listed.getD j true=false)→wpList P ops.toArray Q (ops.drop m) a' w'→Region.ready .any ops.toArray listed=[]→Q .normal a' w':=by
  intro m listed a' w' hsz hl h hr
  have hm:ops.length≤m:=by
   rcases Nat.lt_or_ge m ops.length with h'|h'
   ·have h1:=hl m (Nat.le_refl _) h'
    rw[ready_nil hsz (fine_anc hf) hr m]at h1
    cases h1
   ·exact h'
  rw[List.drop_eq_nil_of_le hm]at h
  exact h
 intro fuel
 induction fuel with
 |zero =>
  intro m listed a' w' hk hsz hc hcnt hlo hhi h
  exact⟨count_zero hcnt,hend m listed a' w' hsz hhi h (count_zero hcnt)⟩
 |succ fuel ih =>
  intro m listed a' w' hk hsz hc hcnt hlo hhi h
  refine⟨hend m listed a' w' hsz hhi h,fun i hi=>?_⟩
  obtain⟨hl,o,ho,-⟩:=ready_spec.1 hi
  have him:m≤i:=by
   rcases Nat.lt_or_ge i m with h'|h'
   ·rw[hlo i h']at hl;cases hl
   ·exact h'
  obtain rfl:i=m:=by
   rcases Nat.lt_or_ge m i with h'|h'
   ·have h1:=lQ hf hc hi (by omega) m h'
    rw[hhi m (Nat.le_refl _) (by have:=lt_of_get ho;omega)]at h1
    cases h1
   ·omega
  refine wpOp_mono (fun a2 w2 h2=>ih (i+1) _ a2 w2 (by omega) (by simpa using hsz) (closed_set hc hi) (by have:=count_set hl;omega) (fun j hj=>?_) (fun j hj hjl=>?_) h2) (GK ho h)
  ·by_cases hji:j=i
   ·subst hji
    have hlt:=size_of_getD hl
    simp[Array.getD_eq_getD_getElem?,hlt]
   ·exact getD_set_keeps (hlo j (by omega))
  ·cases h':(listed.setIfInBounds i true).getD j true with
   |false=>rfl
   |true =>
    have:=getD_set_other h' (by omega)
    rw[hhi j (by omega) hjl]at this
    cases this
theorem a3F{G:World→World→Prop}{k:Nat}{F:List (Value→World→Prop)}{Q:Exit→Act→World→Prop}{a:Act}{w:World}(hf:fine ops a.tmps.size k=true)(hlen:F.length=k)
  (hrefl:∀ w,G w w) (htr:∀{a b c},G a b→G b c→G a c)
  (hst:∀ i v w1 w2,G w w1→G w1 w2→(F.getD i fun _ _=>True) v w1→(F.getD i fun _ _=>True) v w2)
  (hop:∀ i o,i<k→ops[i]?=some o→aSC P G ops k F a w i o)
  (hQ:∀ w',G w w'→forAllV F w' fun vs=>wpList P ops.toArray Q (ops.drop k) (putAll a (ops.take k) vs) w') :
  ∀(fuel:Nat) (listed:Array Bool) (a':Act) (w':World),listed.toList.count false≤fuel→Inv G ops k F a w listed a' w'→wpAny P .any ops.toArray Q fuel listed a' w':=by
 have hend:∀(fuel:Nat) (listed:Array Bool) (a':Act) (w':World),listed.toList.count false≤fuel→Inv G ops k F a w listed a' w'→(∀ j,j<k→listed.getD j true=true)→wpAny P .any ops.toArray Q fuel listed a' w':=by
  intro fuel listed a' w' hcnt I hall
  exact NB hf fuel k listed a' w' (Nat.le_refl _) I.lsize I.closed hcnt hall I.late (I.full (K:=fun a'=>wpList P ops.toArray Q (ops.drop k) a' w') hf hlen hall (hQ w' I.grow))
 intro fuel
 induction fuel with
 |zero =>
  intro listed a' w' hcnt I
  exact hend 0 listed a' w' hcnt I fun j _=>ready_nil I.lsize (fine_anc hf) (count_zero hcnt) j
 |succ fuel ih =>
  intro listed a' w' hcnt I
  by_cases hall:∀ j,j<k→listed.getD j true=true
  ·exact hend _ listed a' w' hcnt I hall
  ·refine⟨fun hr=>absurd (fun j _=>ready_nil I.lsize (fine_anc hf) hr j) hall,fun i hi=>?_⟩
   obtain⟨hl,o,ho,-⟩:=ready_spec.1 hi
   have hik:i<k:=by
    rcases Nat.lt_or_ge i k with h'|h'
    ·exact h'
    ·exact absurd (fun j hj=>lQ hf I.closed hi h' j (by omega)) hall
   refine aH0 (R:=F.getD i fun _ _=>True) ho (hrefl _) (hop i o hik ho a' w' I.grow I.size (I.seen hf ho hik hi)) fun v w'' hG hR=>?_
   exact ih _ _ _ (by have:=count_set hl;omega) (I.step hst htr hf ho hik hi hG hR)
theorem KZ{F:List (Value→World→Prop)}{G:World→World→Prop}{w:World}(hst:∀ R∈F,∀ v w1 w2,G w w1→G w1 w2→R v w1→R v w2) :
  ∀ i v w1 w2,G w w1→G w1 w2→(F.getD i fun _ _=>True) v w1→(F.getD i fun _ _=>True) v w2:=by
 intro i v w1 w2 h1 h2 h3
 rw[List.getD_eq_getElem?_getD]at h3 ⊢
 cases hi:F[i]? with
 |none=>simp
 |some R =>
  simp only[hi,Option.getD_some]at h3 ⊢
  exact hst R (List.mem_of_getElem? hi) v w1 w2 h1 h2 h3
def Lex(P:Program)(G:World→World→Prop)(a:Act)(w:World)(K:List (Value→World→Prop)→Prop):List Oper→List Rec→List (Value→World→Prop)→Prop
 |o::l,d::D,F=>∃ R:Value→World→Prop,(∀ v w1 w2,G w w1→G w1 w2→R v w1→R v w2) ∧
   (∀(a':Act) (w':World),G w w'→aFl F a a' w' d.looks (aHW a' d.guard (aCs P G R w' ((execOp a'.eval o).run P w')) (R undef w')))∧Lex P G a w K l D (F++[R])
 |_,_,F=>K F
section
variable{Fe:Fence}{n:Nat}
def opOkIn(Fe:Fence)(n:Nat)(P:Program)(G:World→World→Prop)(R:Value→World→Prop)(w:World):Result Next→Prop
 |.ok (.value v) w'=>G w w'∧R v w'
 |.ok .skip w'=>G w w'∧R undef w'
 |.ok (.enter f args) w'=>CallsIn Fe (n-1) P f args w' fun e w''=>∃ v,e=.returned v∧G w w''∧R v w''
 |_=>False
def I2(Fe:Fence)(n:Nat)(P:Program)(G:World→World→Prop)(ops:List Oper)(k:Nat)(F:List (Value→World→Prop))(a:Act)(w:World)(i:Nat)(o:Oper):Prop :=
 ∀(a':Act) (w':World),G w w'→a'.tmps.size=a.tmps.size→(∀ t,(∀ j,writer (ops.take k) 0 t=some j→j∈preds o)→slotFact (ops.take k) F a a' w' t) →
  if Region.wanted o (yielded ops.toArray a'.tmps)then opOkIn Fe n P G (F.getD i fun _ _=>True) w' ((o.semAt Fe.round a'.eval).run P w')else(F.getD i fun _ _=>True) undef w'
theorem wpOpIn_ok{G:World→World→Prop}{R:Value→World→Prop}{i:Nat}{o:Oper}{a':Act}{w':World}{K:Act→World→Prop}{Q:Exit→Act→World→Prop}(hFn:∀ f,Fe.fn f)(hFd:Fe.depth=none)(ho:ops[i]?=some o)(hrefl:G w' w')
  (hgo:if Region.wanted o (yielded ops.toArray a'.tmps)then opOkIn Fe n P G R w' ((o.semAt Fe.round a'.eval).run P w')else R undef w') (hK:∀ v w'',G w' w''→R v w''→K (a'.put o.dst v) w''):wpOpIn Fe n P ops.toArray Q i K a' w':=by
 unfold wpOpIn
 have ho':ops.toArray[i]?=some o:=by simpa using ho
 simp only[ho']
 split
 ·rename_i hw
  rw[if_pos hw]at hgo
  unfold Oper.wpIn
  refine⟨fun f _=>hFn f,?_⟩
  generalize (o.semAt Fe.round a'.eval).run P w'=r at hgo ⊢
  cases r with
  |ok n w2 =>
   cases n<;>simp only[opOkIn]at hgo<;>simp only[Oper.uponIn]
   case value v=>exact hK _ _ hgo.1 hgo.2
   case skip=>exact hK _ _ hgo.1 hgo.2
   case enter f args=>exact⟨(fun h=>(by rw[hFd]at h;cases h)),hgo.mono fun e w'' ⟨v,he,hG,hR⟩=>by subst he;exact hK _ _ hG hR⟩
  |halt x w2=>simp only[opOkIn]at hgo
 ·rename_i hw
  rw[if_neg hw]at hgo
  exact⟨fun f _=>hFn f,hK _ _ hrefl hgo⟩
theorem A1{m:Nat}{o:Oper}{Q:Exit→Act→World→Prop}{a':Act}{w':World}(ho:ops[m]?=some o)(h:wpListIn Fe n P ops.toArray Q (ops.drop m) a' w') :
  wpOpIn Fe n P ops.toArray Q m (wpListIn Fe n P ops.toArray Q (ops.drop (m+1))) a' w':=by
 have hlt:=lt_of_get ho
 have e:ops.drop m=o::ops.drop (m+1):=by
  rw[List.drop_eq_getElem_cons hlt]
  congr 1
  exact Option.some.inj ((List.getElem?_eq_getElem hlt).symm.trans ho)
 rw[e]at h
 unfold wpOpIn
 have ho':ops.toArray[m]?=some o:=by simpa using ho
 simp only[ho']
 exact h
theorem DE{N k:Nat}{Q:Exit→Act→World→Prop}(hf:fine ops N k=true):∀(fuel m:Nat) (listed:Array Bool) (a':Act) (w':World),k≤m→listed.size=ops.length→Closed ops listed→listed.toList.count false≤fuel →
  (∀ j,j<m→listed.getD j true=true)→(∀ j,m≤j→j<ops.length→listed.getD j true=false)→wpListIn Fe n P ops.toArray Q (ops.drop m) a' w'→wpAnyIn Fe n P .any ops.toArray Q fuel listed a' w':=by
 have hend:∀(m:Nat) (listed:Array Bool) (a':Act) (w':World),listed.size=ops.length→(∀ j,m≤j→j<ops.length→listed.getD j true=false)→wpListIn Fe n P ops.toArray Q (ops.drop m) a' w'→Region.ready .any ops.toArray listed=[]→Q .normal a' w':=by
  intro m listed a' w' hsz hl h hr
  have hm:ops.length≤m:=by
   rcases Nat.lt_or_ge m ops.length with h'|h'
   ·have h1:=hl m (Nat.le_refl _) h'
    rw[ready_nil hsz (fine_anc hf) hr m]at h1
    cases h1
   ·exact h'
  rw[List.drop_eq_nil_of_le hm]at h
  exact h
 intro fuel
 induction fuel with
 |zero =>
  intro m listed a' w' hk hsz hc hcnt hlo hhi h
  exact⟨count_zero hcnt,hend m listed a' w' hsz hhi h (count_zero hcnt)⟩
 |succ fuel ih =>
  intro m listed a' w' hk hsz hc hcnt hlo hhi h
  refine⟨hend m listed a' w' hsz hhi h,fun i hi=>?_⟩
  obtain⟨hl,o,ho,-⟩:=ready_spec.1 hi
  have him:m≤i:=by
   rcases Nat.lt_or_ge i m with h'|h'
   ·rw[hlo i h']at hl;cases hl
   ·exact h'
  obtain rfl:i=m:=by
   rcases Nat.lt_or_ge m i with h'|h'
   ·have h1:=lQ hf hc hi (by omega) m h'
    rw[hhi m (Nat.le_refl _) (by have:=lt_of_get ho;omega)]at h1
    cases h1
   ·omega
  refine wpOpIn_mono (fun a2 w2 h2=>ih (i+1) _ a2 w2 (by omega) (by simpa using hsz) (closed_set hc hi) (by have:=count_set hl;omega) (fun j hj=>?_) (fun j hj hjl=>?_) h2) (A1 ho h)
  ·by_cases hji:j=i
   ·subst hji
    have hlt:=size_of_getD hl
    simp[Array.getD_eq_getD_getElem?,hlt]
   ·exact getD_set_keeps (hlo j (by omega))
  ·cases h':(listed.setIfInBounds i true).getD j true with
   |false=>rfl
   |true =>
    have:=getD_set_other h' (by omega)
    rw[hhi j (by omega) hjl]at this
    cases this
theorem F9(hFn:∀ f,Fe.fn f)(hFd:Fe.depth=none){G:World→World→Prop}{k:Nat}{F:List (Value→World→Prop)}{Q:Exit→Act→World→Prop}{a:Act}{w:World}(hf:fine ops a.tmps.size k=true)(hlen:F.length=k)
  (hrefl:∀ w,G w w) (htr:∀{a b c},G a b→G b c→G a c)
  (hst:∀ i v w1 w2,G w w1→G w1 w2→(F.getD i fun _ _=>True) v w1→(F.getD i fun _ _=>True) v w2)
  (hop:∀ i o,i<k→ops[i]?=some o→I2 Fe n P G ops k F a w i o)
  (hQ:∀ w',G w w'→forAllV F w' fun vs=>wpListIn Fe n P ops.toArray Q (ops.drop k) (putAll a (ops.take k) vs) w') :
  ∀(fuel:Nat) (listed:Array Bool) (a':Act) (w':World),listed.toList.count false≤fuel→Inv G ops k F a w listed a' w'→wpAnyIn Fe n P .any ops.toArray Q fuel listed a' w':=by
 have hend:∀(fuel:Nat) (listed:Array Bool) (a':Act) (w':World),listed.toList.count false≤fuel→Inv G ops k F a w listed a' w'→(∀ j,j<k→listed.getD j true=true)→wpAnyIn Fe n P .any ops.toArray Q fuel listed a' w':=by
  intro fuel listed a' w' hcnt I hall
  exact DE hf fuel k listed a' w' (Nat.le_refl _) I.lsize I.closed hcnt hall I.late (I.full (K:=fun a'=>wpListIn Fe n P ops.toArray Q (ops.drop k) a' w') hf hlen hall (hQ w' I.grow))
 intro fuel
 induction fuel with
 |zero =>
  intro listed a' w' hcnt I
  exact hend 0 listed a' w' hcnt I fun j _=>ready_nil I.lsize (fine_anc hf) (count_zero hcnt) j
 |succ fuel ih =>
  intro listed a' w' hcnt I
  by_cases hall:∀ j,j<k→listed.getD j true=true
  ·exact hend _ listed a' w' hcnt I hall
  ·refine⟨fun hr=>absurd (fun j _=>ready_nil I.lsize (fine_anc hf) hr j) hall,fun i hi=>?_⟩
   obtain⟨hl,o,ho,-⟩:=ready_spec.1 hi
   have hik:i<k:=by
    rcases Nat.lt_or_ge i k with h'|h'
    ·exact h'
    ·exact absurd (fun j hj=>lQ hf I.closed hi h' j (by omega)) hall
   refine wpOpIn_ok (n:=n) (R:=F.getD i fun _ _=>True) hFn hFd ho (hrefl _) (hop i o hik ho a' w' I.grow I.size (I.seen hf ho hik hi)) fun v w'' hG hR=>?_
   exact ih _ _ _ (by have:=count_set hl;omega) (I.step hst htr hf ho hik hi hG hR)
theorem wpIn_region_rel(hFn:∀ f,Fe.fn f)(hFd:Fe.depth=none){id:Nat}{Q:Exit→Act→World→Prop}{a:Act}{w:World}(k:Nat)(G:World→World→Prop)(F:List (Value→World→Prop))(hm:P.follows .mixedOrders=true)
  (hf:fine ops a.tmps.size k=true) (hlen:F.length=k)
  (hrefl:∀ w,G w w) (htr:∀{a b c},G a b→G b c→G a c) (hdrew:G w w.drew)
  (hst:∀ R∈F,∀ v w1 w2,G w w1→G w1 w2→R v w1→R v w2)
  (hop:∀ i o,i<k→ops[i]?=some o→I2 Fe n P G ops k F a w i o)
  (hQ:∀ w',G w w'→forAllV F w' fun vs=>wpListIn Fe n P ops.toArray Q (ops.drop k) (putAll a (ops.take k) vs) w'):(Code.region id ops.toArray true).wpIn Fe n P Q a w:=by
 refine wpIn_region_any hm ?_
 have:=F9 (Q:=Q) hFn hFd hf hlen hrefl htr (KZ hst) hop hQ _ _ _ _ (count_start ops.length) (Inv.start hdrew)
 simpa using this
end
end Go.Proofs.YtpdphobnchajbaaGreatDoor.Rel
namespace Go.Proofs.YtpdphobnchajbaaGreatDoor.Ev
open Go Go.RowKit
structure MOp where
 dst:Option Nat
 op:Op
 guard:Option (Nat×Bool)
inductive M where
 |skip
 |reg (keep:List Nat) (ops:List MOp) (free:Nat)
 |ops (ops:List MOp)
 |again (ops:List MOp)
 |seq (a b:M)
 |cond (c:Operand) (a b:M)
 |block (id:Nat) (a:M)
 |loop (a:M)
 |rf (g:Operand) (nt:Nat) (ps sl:List Nat) (a b:M)
 |exit (id:Nat)
 |ret
 |bad
inductive A where
 |v (x:Value)
 |agg (cs:List A)
 |tup (vs:List A)
 |ptr (b off:Nat)
 |ref (b off len sz:Nat)
 |sl (len:Nat) (cs:List A)
 |fp (cs:List A)
 |mp (b:Nat)
 |mf (cs:List A)
 |clo (f:FuncId) (fs caps:List A)
 |yl (b:Nat)
 |lrec (nt:Nat) (ps sl:List Nat) (a b:M)
 |it (b:Nat)
 |its (s:ByteArray) (pos:Nat)
instance:Inhabited A:=⟨.v undef⟩
structure Blk where
 e:TypeId
 cs:List A
 whole:Bool
abbrev aG:=List (Option Blk)
structure GD where
 tab:Nat→Option (List Value)
 lk:Nat→List Nat→List Nat→M→M→Loop→Prop
 ifs:Nat→Bool:=fun _=>false
def p7(w:World)(g off:Nat)(xs:List Value):Prop:=∀(i:Nat) x,xs[i]?=some x→w.cell? ⟨g,off+i,none⟩=some x
def gE(es:List MapEntry):List Value:=es.flatMap fun e=>[e.key,e.val]
mutual
def R(ρ:List Nat)(own:Nat→Prop)(w:World):A→Value→Prop
 |.v x,y=>y=x
 |.agg cs,y=>∃ xs:List Value,y=.agg xs.toArray∧RL ρ own w cs xs
 |.tup cs,y=>∃ xs:List Value,y=.tuple xs.toArray∧RL ρ own w cs xs
 |.ptr b off,y=>∃ g,ρ[b]?=some g∧y=.pointer (some ⟨g,off,none⟩)∧∃ cur e fz,w.heap[g]?=some (.cells cur e fz)
 |.ref b off len sz,y=>∃ g cap cur e fz,ρ[b]?=some g∧y=.slice (some ⟨g,off,none⟩) len cap∧len≤cap∧cap≤maxLen∧w.heap[g]?=some (.cells cur e fz)∧off+cap*sz≤cur.size
 |.sl len cs,y=>(len=0∧cs=[]∧∃ a cap,y=.slice a 0 cap)∨∃ g off cap xs,y=.slice (some ⟨g,off,none⟩) len cap∧len≤cap∧g<w.heap.size∧¬ own g∧RL [] own w cs xs∧p7 w g off xs
 |.fp cs,y=>∃ g off xs,y=.pointer (some ⟨g,off,none⟩)∧g<w.heap.size∧¬ own g∧RL [] own w cs xs∧p7 w g off xs
 |.mp b,y=>∃ g,ρ[b]?=some g∧y=.map (some g)∧∃ es n,w.heap[g]?=some (.map es n)
 |.mf cs,y=>(cs=[]∧y=.map none)∨∃ g es n,y=.map (some g)∧g<w.heap.size∧¬ own g∧w.heap[g]?=some (.map es n)∧RL [] own w cs (gE es.toList)
 |.clo f fs caps,y=>∃ xs ys:List Value,y=.func (.func f) xs.toArray ys.toArray∧RL ρ own w fs xs∧RL ρ own w caps ys
 |.yl b,y=>∃ g,ρ[b]?=some g∧y=.func (.yield g) #[] #[]∧∃ r,w.heap[g]?=some (.loop r)
 |.lrec _ _ _ _ _,_=>False
 |.it b,y=>∃ g,ρ[b]?=some g∧y=.pointer (some ⟨g,0,none⟩)∧∃ s p,w.heap[g]?=some (.stringIter s p)
 |.its _ _,_=>False
def RL(ρ:List Nat)(own:Nat→Prop)(w:World):List A→List Value→Prop
 |[],ys=>ys=[]
 |c::cs,ys=>∃ x xs,ys=x::xs∧R ρ own w c x∧RL ρ own w cs xs
end
theorem RL.length{ρ:List Nat}{own:Nat→Prop}{w:World}:∀{cs:List A} {ys:List Value},RL ρ own w cs ys→ys.length=cs.length
 |[],_,h=>by rw[RL]at h;simp[h]
 |_::cs,_,h=>by
  rw[RL]at h
  obtain⟨x,xs,rfl,-,h2⟩:=h
  simp[RL.length h2]
theorem RL.get{ρ:List Nat}{own:Nat→Prop}{w:World}:∀{cs:List A} {ys:List Value},RL ρ own w cs ys→∀(i:Nat) c,cs[i]?=some c→∃ y,ys[i]?=some y∧R ρ own w c y
 |[],_,h,i,c,hc=>by simp at hc
 |c0::cs,_,h,i,c,hc=>by
  rw[RL]at h
  obtain⟨x,xs,rfl,h1,h2⟩:=h
  cases i with
  |zero=>simp at hc;subst hc;exact⟨x,rfl,h1⟩
  |succ i=>simpa using RL.get h2 i c (by simpa using hc)
theorem RL.cons{ρ:List Nat}{own:Nat→Prop}{w:World}{c:A}{cs:List A}{x:Value}{xs:List Value}(h:R ρ own w c x)(h':RL ρ own w cs xs):RL ρ own w (c::cs) (x::xs):=by
 rw[RL];exact⟨x,xs,rfl,h,h'⟩
theorem RL.nil{ρ:List Nat}{own:Nat→Prop}{w:World}:RL ρ own w [] []:=by rw[RL]
theorem RL.append{ρ:List Nat}{own:Nat→Prop}{w:World}:∀{cs ds:List A} {xs ys:List Value},RL ρ own w cs xs→RL ρ own w ds ys→RL ρ own w (cs++ds) (xs++ys)
 |[],_,_,_,h,h'=>by rw[RL]at h;subst h;exact h'
 |c::cs,_,_,_,h,h'=>by
  rw[RL]at h
  obtain⟨x,xs,rfl,h1,h2⟩:=h
  exact RL.cons h1 (RL.append h2 h')
theorem RL.take{ρ:List Nat}{own:Nat→Prop}{w:World}:∀{cs:List A} {xs:List Value} (n:Nat),RL ρ own w cs xs→RL ρ own w (cs.take n) (xs.take n)
 |_,_,0,_=>by simpa using RL.nil
 |[],_,n+1,h=>by rw[RL]at h;subst h;simpa using RL.nil
 |c::cs,_,n+1,h=>by
  rw[RL]at h
  obtain⟨x,xs,rfl,h1,h2⟩:=h
  exact RL.cons h1 (RL.take n h2)
theorem RL.drop{ρ:List Nat}{own:Nat→Prop}{w:World}:∀{cs:List A} {xs:List Value} (n:Nat),RL ρ own w cs xs→RL ρ own w (cs.drop n) (xs.drop n)
 |_,_,0,h=>h
 |[],_,n+1,h=>by rw[RL]at h;subst h;simpa using RL.nil
 |c::cs,_,n+1,h=>by
  rw[RL]at h
  obtain⟨x,xs,rfl,h1,h2⟩:=h
  simpa using RL.drop n h2
theorem RL.exact{ρ:List Nat}{own:Nat→Prop}{w:World}:∀(xs:List Value),RL ρ own w (xs.map A.v) xs
 |[]=>RL.nil
 |_::xs=>RL.cons (by rw[R]) (RL.exact xs)
theorem p7.take{w:World}{g off:Nat}{xs:List Value}(h:p7 w g off xs)(n:Nat):p7 w g off (xs.take n):=fun i x hx=>h i x (by
 rw[List.getElem?_take]at hx
 split at hx
 ·exact hx
 ·cases hx)
theorem p7.drop{w:World}{g off:Nat}{xs:List Value}(h:p7 w g off xs)(n:Nat):p7 w g (off+n) (xs.drop n):=fun i x hx=>by
 rw[List.getElem?_drop]at hx
 have:=h (n+i) x hx
 rwa [← Nat.add_assoc]at this
def img(ρ:List Nat)(H:aG)(g:Nat):Prop:=∃(b:Nat) (k:Blk),H[b]?=some (some k)∧ρ[b]?=some g
structure Cfg where
 ρ:List Nat
 own:Nat→Prop
 H:aG
 w:World
def Gl(Gd:GD)(own:Nat→Prop)(w:World):Prop:=(∀ g xs,Gd.tab g=some xs→¬ own g∧g<w.heap.size∧p7 w g 0 xs∧∃ e fz,w.heap[g]?=some (.cells xs.toArray e fz)) ∧
 ∀ g,Gd.ifs g=true→¬ own g∧g<w.heap.size∧∃ t p,w.cell? ⟨g,0,none⟩=some (.iface t p)
theorem Gl.less{Gd:GD}{own own':Nat→Prop}{w:World}(h:Gl Gd own w)(k:∀ g,own' g→own g):Gl Gd own' w :=
 ⟨fun g xs hg=>let ⟨h1,h2,h3⟩:=h.1 g xs hg;⟨fun h=>h1 (k g h),h2,h3⟩,fun g hg=>let ⟨h1,h2,h3⟩:=h.2 g hg;⟨fun h=>h1 (k g h),h2,h3⟩⟩
variable{Gd:GD}
def stV:LoopState→Value
 |.ready=>.int .i64 0
 |.busy=>.int .i64 1
 |.done=>.int .i64 2
 |.exhausted=>.int .i64 3
def peV:Option Code→Value
 |none=>.int .i64 0
 |some .ret=>.int .i64 1
 |some (.exit id)=>.int .i64 (id+2)
 |some _=>.nilIface
def aDS(sl:List Nat)(r:Loop):List Value:=stV r.state::peV r.pending::sl.map fun s=>r.tmps.getD s undef
def BC(es:Array MapEntry)(n:Nat):Prop:=n=es.size∧∀(i:Nat) e,es[i]?=some e→e.born=i
def W9(Gd:GD)(ρ:List Nat)(own:Nat→Prop)(w:World)(e:TypeId)(cs:List A)(wh:Bool)(g:Nat):Prop :=
 (∃ cur xs,w.heap[g]?=some (.cells cur e (0,0))∧RL ρ own w cs xs∧xs <+: cur.toList∧(wh=true→cur.size=cs.length)) ∨
 (∃ es n,w.heap[g]?=some (.map es n)∧RL ρ own w cs (gE es.toList)∧BC es n) ∨
 (∃ r nt ps sl a b rest,w.heap[g]?=some (.loop r)∧cs=.lrec nt ps sl a b::rest∧Gd.lk nt ps sl a b r∧RL ρ own w rest (aDS sl r)) ∨
 (∃ s p,w.heap[g]?=some (.stringIter s p)∧cs=[.its s p])
structure Ok(Gd:GD)(c:Cfg):Prop where
 len:c.ρ.length=c.H.length
 lt:∀ g,c.own g→g<c.w.heap.size
 img:∀ g,img c.ρ c.H g→c.own g
 blk:∀(b:Nat) e cs wh (g:Nat),c.H[b]?=some (some ⟨e,cs,wh⟩)→c.ρ[b]?=some g→W9 Gd c.ρ c.own c.w e cs wh g
 inj:∀(b b':Nat) k k' (g:Nat),c.H[b]?=some (some k)→c.H[b']?=some (some k')→c.ρ[b]?=some g→c.ρ[b']?=some g→b=b'
 glob:Gl Gd c.own c.w
def iS:Obj→Nat
 |.loop _=>1
 |.stringIter _ _=>2
 |.mapIter _ _ _ _=>3
 |_=>0
theorem z8{o:Obj}(h:iS o=1):∃ r,o=.loop r:=by cases o<;>simp[iS]at h;exact⟨_,rfl⟩
theorem P6{o:Obj}(h:iS o=2):∃ s p,o=.stringIter s p:=by cases o<;>simp[iS]at h;exact⟨_,_,rfl⟩
structure To(c c':Cfg):Prop where
 pre:c.ρ <+: c'.ρ
 size:c.w.heap.size≤c'.w.heap.size
 os:c'.w.os=c.w.os
 tape:c'.w.tape=c.w.tape
 output:c'.w.output=c.w.output
 img:∀ g,g<c.w.heap.size→Ev.img c'.ρ c'.H g→Ev.img c.ρ c.H g
 same:∀ g,g<c.w.heap.size→¬ Ev.img c.ρ c.H g→c'.w.heap[g]?=c.w.heap[g]?
 shape:∀(g:Nat) (cur:Array Value) (e:TypeId) (fz:Nat×Nat),c.w.heap[g]?=some (.cells cur e fz)→∃(cur':Array Value) (fz':Nat×Nat),c'.w.heap[g]?=some (.cells cur' e fz')∧cur'.size=cur.size
 maps:∀(g:Nat) es n,c.w.heap[g]?=some (.map es n)→∃ es' n',c'.w.heap[g]?=some (.map es' n')
 kinds:∀(g:Nat) o,c.w.heap[g]?=some o→iS o≠0→∃ o',c'.w.heap[g]?=some o'∧iS o'=iS o
 own:∀ g,g<c.w.heap.size→(c'.own g→c.own g)∧(c.own g→c'.own g∨Ev.img c.ρ c.H g)
theorem To.refl(c:Cfg):To c c:=⟨List.prefix_rfl,Nat.le_refl _,rfl,rfl,rfl,fun _ _ h=>h,fun _ _ _=>rfl,fun _ cur _ fz h=>⟨cur,fz,h,rfl⟩,fun _ es n h=>⟨es,n,h⟩,fun _ o h _=>⟨o,h,rfl⟩,fun _ _=>⟨id,.inl⟩⟩
theorem To.trans{a b c:Cfg}(h:To a b)(k:To b c):To a c :=
 ⟨h.pre.trans k.pre,Nat.le_trans h.size k.size,k.os.trans h.os,k.tape.trans h.tape,k.output.trans h.output,
  fun g hg hi=>h.img g hg (k.img g (Nat.lt_of_lt_of_le hg h.size) hi),
  fun g hg hn=>(k.same g (Nat.lt_of_lt_of_le hg h.size) (fun hi=>hn (h.img g hg hi))).trans (h.same g hg hn),
  fun g cur e fz hc=>let ⟨c1,f1,h1,h2⟩:=h.shape g cur e fz hc;let ⟨c2,f2,h3,h4⟩:=k.shape g c1 e f1 h1;⟨c2,f2,h3,h4.trans h2⟩,
  fun g es n hc=>let ⟨es1,n1,h1⟩:=h.maps g es n hc;k.maps g es1 n1 h1,
  fun g o hc h0=>let ⟨o1,h1,h2⟩:=h.kinds g o hc h0;let ⟨o2,h3,h4⟩:=k.kinds g o1 h1 (by rw[h2];exact h0);⟨o2,h3,h4.trans h2⟩,
  fun g hg=>⟨fun hc=>(h.own g hg).1 ((k.own g (Nat.lt_of_lt_of_le hg h.size)).1 hc),fun ha=>((h.own g hg).2 ha).elim (fun hb=>((k.own g (Nat.lt_of_lt_of_le hg h.size)).2 hb).imp_right (h.img g hg)) .inr⟩⟩
theorem iX{ρ ρ':List Nat}(h:ρ <+: ρ'){b g:Nat}(hb:ρ[b]?=some g):ρ'[b]?=some g:=by
 obtain⟨t,rfl⟩:=h
 rw[List.getElem?_append_left (List.getElem?_eq_some_iff.1 hb).1]
 exact hb
structure jN(ρ:List Nat)(own:Nat→Prop)(w:World)(ρ':List Nat)(own':Nat→Prop)(w':World):Prop where
 pre:ρ <+: ρ'
 size:w.heap.size≤w'.heap.size
 free:∀ g,g<w.heap.size→¬ own g→¬ own' g∧w'.heap[g]?=w.heap[g]?
 shape:∀(g:Nat) (cur:Array Value) (e:TypeId) (fz:Nat×Nat),w.heap[g]?=some (.cells cur e fz)→∃(cur':Array Value) (fz':Nat×Nat),w'.heap[g]?=some (.cells cur' e fz')∧cur'.size=cur.size
 maps:∀(g:Nat) es n,w.heap[g]?=some (.map es n)→∃ es' n',w'.heap[g]?=some (.map es' n')
 kinds:∀(g:Nat) o,w.heap[g]?=some o→iS o≠0→∃ o',w'.heap[g]?=some o'∧iS o'=iS o
theorem jN.shut{ρ ρ':List Nat}{own own':Nat→Prop}{w w':World}(k:jN ρ own w ρ' own' w'):jN [] own w [] own' w':=⟨List.prefix_rfl,k.size,k.free,k.shape,k.maps,k.kinds⟩
theorem jN.loop{ρ ρ':List Nat}{own own':Nat→Prop}{w w':World}(k:jN ρ own w ρ' own' w'){g:Nat}{r:Loop}(h:w.heap[g]?=some (.loop r)):∃ r',w'.heap[g]?=some (.loop r'):=by
 obtain⟨o,h1,h2⟩:=k.kinds g _ h (by simp[iS])
 obtain⟨r',rfl⟩:=z8 h2
 exact⟨r',h1⟩
theorem jN.iter{ρ ρ':List Nat}{own own':Nat→Prop}{w w':World}(k:jN ρ own w ρ' own' w'){g:Nat}{s:ByteArray}{p:Nat}(h:w.heap[g]?=some (.stringIter s p)):∃ s' p',w'.heap[g]?=some (.stringIter s' p'):=by
 obtain⟨o,h1,h2⟩:=k.kinds g _ h (by simp[iS])
 obtain⟨s',p',rfl⟩:=P6 h2
 exact⟨s',p',h1⟩
theorem To.loop{c c':Cfg}(k:To c c'){g:Nat}{r:Loop}(h:c.w.heap[g]?=some (.loop r)):∃ r',c'.w.heap[g]?=some (.loop r'):=by
 obtain⟨o,h1,h2⟩:=k.kinds g _ h (by simp[iS])
 obtain⟨r',rfl⟩:=z8 h2
 exact⟨r',h1⟩
theorem p7.keep{ρ ρ':List Nat}{own own':Nat→Prop}{w w':World}(k:jN ρ own w ρ' own' w'){g off:Nat}{xs:List Value}(hg:g<w.heap.size)(ho:¬ own g)(h:p7 w g off xs):p7 w' g off xs:=fun i x hx =>
 (World.cell?_of_block (a:=⟨g,off+i,none⟩) (k.free g hg ho).2).trans (h i x hx)
mutual
theorem R.keep{ρ ρ':List Nat}{own own':Nat→Prop}{w w':World}(k:jN ρ own w ρ' own' w'):∀(a:A) (y:Value),R ρ own w a y→R ρ' own' w' a y
 |.v x,y,h=>by rw[R]at *;exact h
 |.agg cs,y,h=>by
  rw[R]at *
  obtain⟨xs,h1,h2⟩:=h
  exact⟨xs,h1,RL.keep k cs xs h2⟩
 |.tup cs,y,h=>by
  rw[R]at *
  obtain⟨xs,h1,h2⟩:=h
  exact⟨xs,h1,RL.keep k cs xs h2⟩
 |.ptr b off,y,h=>by
  rw[R]at *
  obtain⟨g,h1,h2,cur,e,fz,h3⟩:=h
  obtain⟨cur',fz',h4,-⟩:=k.shape g cur e fz h3
  exact⟨g,iX k.pre h1,h2,cur',e,fz',h4⟩
 |.ref b off len sz,y,h=>by
  rw[R]at *
  obtain⟨g,cap,cur,e,fz,h1,h2,h3,h4,h5,h6⟩:=h
  obtain⟨cur',fz',h7,h8⟩:=k.shape g cur e fz h5
  exact⟨g,cap,cur',e,fz',iX k.pre h1,h2,h3,h4,h7,h8▸h6⟩
 |.sl len cs,y,h=>by
  rw[R]at *
  rcases h with h|⟨g,off,cap,xs,h1,h0,h2,h3,h4,h5⟩
  ·exact .inl h
  ·exact .inr ⟨g,off,cap,xs,h1,h0,Nat.lt_of_lt_of_le h2 k.size,(k.free g h2 h3).1,RL.keep k.shut cs xs h4,h5.keep k h2 h3⟩
 |.fp cs,y,h=>by
  rw[R]at *
  obtain⟨g,off,xs,h1,h2,h3,h4,h5⟩:=h
  exact⟨g,off,xs,h1,Nat.lt_of_lt_of_le h2 k.size,(k.free g h2 h3).1,RL.keep k.shut cs xs h4,h5.keep k h2 h3⟩
 |.mp b,y,h=>by
  rw[R]at *
  obtain⟨g,h1,h2,es,n,h3⟩:=h
  obtain⟨es',n',h4⟩:=k.maps g es n h3
  exact⟨g,iX k.pre h1,h2,es',n',h4⟩
 |.mf cs,y,h=>by
  rw[R]at *
  rcases h with h|⟨g,es,n,h1,h2,h3,h4,h5⟩
  ·exact .inl h
  ·exact .inr ⟨g,es,n,h1,Nat.lt_of_lt_of_le h2 k.size,(k.free g h2 h3).1,(k.free g h2 h3).2.trans h4,RL.keep k.shut cs _ h5⟩
 |.clo f fs caps,y,h=>by
  rw[R]at *
  obtain⟨xs,ys,h1,h2,h3⟩:=h
  exact⟨xs,ys,h1,RL.keep k fs xs h2,RL.keep k caps ys h3⟩
 |.yl b,y,h=>by
  rw[R]at *
  obtain⟨g,h1,h2,r,h3⟩:=h
  obtain⟨r',h4⟩:=k.loop h3
  exact⟨g,iX k.pre h1,h2,r',h4⟩
 |.lrec nt ps sl a b,y,h=>by
  rw[R]at h
  exact h.elim
 |.it b,y,h=>by
  rw[R]at *
  obtain⟨g,h1,h2,s,p,h3⟩:=h
  obtain⟨s',p',h4⟩:=k.iter h3
  exact⟨g,iX k.pre h1,h2,s',p',h4⟩
 |.its s p,y,h=>by
  rw[R]at h
  exact h.elim
theorem RL.keep{ρ ρ':List Nat}{own own':Nat→Prop}{w w':World}(k:jN ρ own w ρ' own' w'):∀(cs:List A) (ys:List Value),RL ρ own w cs ys→RL ρ' own' w' cs ys
 |[],ys,h=>by rw[RL]at *;exact h
 |c::cs,ys,h=>by
  rw[RL]at *
  obtain⟨x,xs,h1,h2,h3⟩:=h
  exact⟨x,xs,h1,R.keep k c x h2,RL.keep k cs xs h3⟩
end
theorem To.keeps{c c':Cfg}(h:To c c')(ok:Ok Gd c):jN c.ρ c.own c.w c'.ρ c'.own c'.w :=
 ⟨h.pre,h.size,fun g hg ho=>⟨fun ho'=>ho ((h.own g hg).1 ho'),h.same g hg fun hi=>ho (ok.img g hi)⟩,h.shape,h.maps,h.kinds⟩
theorem R.to{c c':Cfg}(h:To c c')(ok:Ok Gd c){a:A}{y:Value}(hr:R c.ρ c.own c.w a y):R c'.ρ c'.own c'.w a y:=R.keep (h.keeps ok) a y hr
theorem RL.to{c c':Cfg}(h:To c c')(ok:Ok Gd c){a:List A}{y:List Value}(hr:RL c.ρ c.own c.w a y):RL c'.ρ c'.own c'.w a y:=RL.keep (h.keeps ok) a y hr
theorem W9.keep{ρ ρ':List Nat}{own own':Nat→Prop}{w w':World}(k:jN ρ own w ρ' own' w'){e:TypeId}{cs:List A}{wh:Bool}{g:Nat}(hs:w'.heap[g]?=w.heap[g]?)(h:W9 Gd ρ own w e cs wh g):W9 Gd ρ' own' w' e cs wh g:=by
 rcases h with⟨cur,xs,h1,h2,h3,h4⟩|⟨es,n,h1,h2,h3⟩|⟨r,nt,ps,sl,a,b,rest,h1,h2,h3,h4⟩|⟨s,p,h1,h2⟩
 ·exact .inl ⟨cur,xs,hs.trans h1,RL.keep k _ _ h2,h3,h4⟩
 ·exact .inr (.inl ⟨es,n,hs.trans h1,RL.keep k _ _ h2,h3⟩)
 ·exact .inr (.inr (.inl ⟨r,nt,ps,sl,a,b,rest,hs.trans h1,h2,h3,RL.keep k _ _ h4⟩))
 ·exact .inr (.inr (.inr ⟨s,p,hs.trans h1,h2⟩))
theorem Ok.cells{c:Cfg}(ok:Ok Gd c){b:Nat}{e:TypeId}{cs:List A}{wh:Bool}{g:Nat}(hb:c.H[b]?=some (some ⟨e,cs,wh⟩))(hg:c.ρ[b]?=some g){cur0:Array Value}{e0:TypeId}{fz0:Nat×Nat}(hc:c.w.heap[g]?=some (.cells cur0 e0 fz0)) :
  ∃ cur xs,c.w.heap[g]?=some (.cells cur e (0,0))∧RL c.ρ c.own c.w cs xs∧xs <+: cur.toList∧(wh=true→cur.size=cs.length):=by
 rcases ok.blk b e cs wh g hb hg with h|⟨es,n,h1,-⟩|⟨r,nt,ps,sl,a,b,rest,h1,-⟩|⟨s,p,h1,-⟩
 ·exact h
 ·rw[hc]at h1
  cases h1
 ·rw[hc]at h1
  cases h1
 ·rw[hc]at h1
  cases h1
theorem Ok.lt_blk{c:Cfg}(ok:Ok Gd c){b:Nat}{k:Blk}{g:Nat}(hb:c.H[b]?=some (some k))(hg:c.ρ[b]?=some g):g<c.w.heap.size:=ok.lt g (ok.img g ⟨b,k,hb,hg⟩)
theorem Gl.keep{ρ ρ':List Nat}{own own':Nat→Prop}{w w':World}(k:jN ρ own w ρ' own' w')(h:Gl Gd own w):Gl Gd own' w':=by
 refine⟨fun g xs hg=>?_,fun g hg=>?_⟩
 ·obtain⟨h1,h2,h3,e,fz,h4⟩:=h.1 g xs hg
  exact⟨(k.free g h2 h1).1,Nat.lt_of_lt_of_le h2 k.size,h3.keep k h2 h1,e,fz,(k.free g h2 h1).2.trans h4⟩
 ·obtain⟨h1,h2,t,p,h3⟩:=h.2 g hg
  exact⟨(k.free g h2 h1).1,Nat.lt_of_lt_of_le h2 k.size,t,p,(World.cell?_of_block (a:=⟨g,0,none⟩) (k.free g h2 h1).2).trans h3⟩
theorem To.glob{c c':Cfg}(h:To c c')(ok:Ok Gd c):Gl Gd c'.own c'.w:=ok.glob.keep (h.keeps ok)
theorem To.drew(c:Cfg):To c { c with w:=c.w.drew }:=⟨List.prefix_rfl,Nat.le_refl _,rfl,rfl,rfl,fun _ _ h=>h,fun _ _ _=>rfl,fun _ cur _ fz h=>⟨cur,fz,h,rfl⟩,fun _ es n h=>⟨es,n,h⟩,fun _ o h _=>⟨o,h,rfl⟩,fun _ _=>⟨id,.inl⟩⟩
end Go.Proofs.YtpdphobnchajbaaGreatDoor.Ev
namespace Go.Proofs.YtpdphobnchajbaaGreatDoor.Ev
open Go Go.RowKit
inductive K where
 |bool
 |int (k:IntKind)
 |str
 |ptr (e:TypeId)
 |slice (e:TypeId)
 |array (n:Nat) (e:TypeId)
 |struct (fs:List (TypeId×Nat×Bool))
 |map (k e:TypeId)
 |func
 |other
structure Ty where
 k:K
 size:Nat
 bytes:Nat
 zero:List Value
 plain:Bool
structure Tb where
 ty:TypeId→Option Ty
 gl:GD
instance:CoeFun Tb fun _=>TypeId→Option Ty:=⟨Tb.ty⟩
def K.agg:K→Bool
 |.struct _|.array _ _=>true
 |_=>false
def kOf:TypeDesc→K
 |.bool=>.bool
 |.int k=>.int k
 |.string=>.str
 |.pointer e=>.ptr e
 |.slice e=>.slice e
 |.array n e=>.array n e
 |.struct fs=>.struct (fs.toList.map fun f=>(f.type,f.offset,f.name != "_"))
 |.map k e=>.map k e
 |.func _ _ _=>.func
 |_=>.other
def vJ(k:K):Value→Option (List Value)
 |.agg cs=>if k.agg then some cs.toList else none
 |x=>if k.agg then none else some [x]
def bC(P:Program)(t:TypeId):Option Ty :=
 match P.info? t,P.underlying t with
 |some i,some d =>
  match i.zero.bind (vJ (kOf d))with
  |some z=>some ⟨kOf d,i.size,i.bytes,z,!P.eqGuardType P.depth t&&!P.stoodInHeld t⟩
  |none=>none
 |_,_=>none
inductive MQ where
 |shut|pass|norm|trim
structure MFn where
 nt:Nat
 res:List ResultVar
 body:M
 mode:MQ
inductive Tr(α:Type) where
 |nil
 |node (x:Option α) (l r:Tr α)
abbrev Env:=List (Nat×A)
def cI:Env→Nat→Option A
 |[],_=>none
 |(s,x)::l,t=>bif Nat.beq s t then some x else cI l t
def dU(e:Env):List Nat→Env
 |[]=>[]
 |s::l=>match cI e s with
  |some x=>(s,x)::dU e l
  |none=>dU e l
def put(e:Env)(d:Option Nat)(x:A):Env:=match d with
 |some d=>(d,x)::e
 |none=>e
def ofV:Value→A
 |.agg xs=>.agg (xs.toList.map .v)
 |x=>.v x
def opnd(e:Env):Operand→Option A
 |.tmp t=>cI e t
 |.const x=>some (ofV x)
 |.func f=>some (.v (.func (.func f) #[] #[]))
 |.global g=>some (.v (.pointer (some ⟨g,0,none⟩)))
def opnds(e:Env):List Operand→Option (List A)
 |[]=>some []
 |x::l=>match opnd e x,opnds e l with
  |some a,some as=>some (a::as)
  |_,_=>none
def dT:A→List A
 |.agg cs=>cs
 |.v (.agg xs)=>xs.toList.map .v
 |x=>[x]
def one:A→Bool
 |.v (.agg _)|.v (.tuple _)|.agg _|.tup _=>false
 |_=>true
def dE:List A→Bool
 |[]=>true
 |x::l=>one x&&dE l
def xE(op:BinOp):Value→Value→Option Value
 |.int k a,.int k' b =>
  match op with
  |.shl=>if b<0 then none else some (.int k (k.wrap (a*2 ^ (min b.toNat k.bits))))
  |.shr=>if b<0 then none else some (.int k (a.fdiv (2 ^ (min b.toNat k.bits))))
  |_=>if k=k' then
   match op with
   |.add=>some (.int k (k.wrap (a+b)))
   |.sub=>some (.int k (k.wrap (a-b)))
   |.mul=>some (.int k (k.wrap (a*b)))
   |.quo=>if b=0 then none else some (.int k (k.wrap (a.tdiv b)))
   |.rem=>if b=0 then none else some (.int k (a.tmod b))
   |.and=>some (.int k (k.wrap (BitVec.ofInt k.bits a &&& BitVec.ofInt k.bits b).toNat))
   |.or=>some (.int k (k.wrap (BitVec.ofInt k.bits a ||| BitVec.ofInt k.bits b).toNat))
   |.xor=>some (.int k (k.wrap (BitVec.ofInt k.bits a ^^^ BitVec.ofInt k.bits b).toNat))
   |.andNot=>some (.int k (k.wrap (BitVec.ofInt k.bits a &&& ~~~ BitVec.ofInt k.bits b).toNat))
   |.eql=>some (.bool (a==b))
   |.neq=>some (.bool (a !=b))
   |.lss=>some (.bool (a<b))
   |.leq=>some (.bool (a≤b))
   |.gtr=>some (.bool (a > b))
   |.geq=>some (.bool (a ≥ b))
   |_=>none
   else none
 |.string a,.string b =>
  match op with
  |.add=>if((a.size+b.size:Nat):Int) > IntKind.i64.max then none else some (.string (a++b))
  |.eql=>some (.bool (a.toList==b.toList))
  |.neq=>some (.bool !(a.toList==b.toList))
  |.lss=>some (.bool (Op.bytesLess a.toList b.toList))
  |.leq=>some (.bool (Op.bytesLess a.toList b.toList||(a.toList==b.toList)))
  |.gtr=>some (.bool !(Op.bytesLess a.toList b.toList||(a.toList==b.toList)))
  |.geq=>some (.bool !(Op.bytesLess a.toList b.toList))
  |_=>none
 |_,_=>none
def zZ(T:Tb)(eq:TypeId→List A→List A→Option Bool):List (TypeId×Nat×Bool)→List A→List A→Option Bool
 |[],_,_=>some true
 |(t,off,named)::fs,xs,ys =>
  match T t with
  |none=>none
  |some ty =>
   if named then
    if off+ty.size≤xs.length∧off+ty.size≤ys.length∧0<ty.size then
     match eq t ((xs.drop off).take ty.size) ((ys.drop off).take ty.size),zZ T eq fs xs ys with
     |some a,some b=>some (a&&b)
     |_,_=>none
    else none
   else zZ T eq fs xs ys
def eqN(eq:TypeId→List A→List A→Option Bool)(e:TypeId)(sz:Nat):Nat→Nat→List A→List A→Option Bool
 |0,_,_,_=>some true
 |n+1,i,xs,ys =>
  if i*sz+sz≤xs.length∧i*sz+sz≤ys.length∧0<sz then
   match eq e ((xs.drop (i*sz)).take sz) ((ys.drop (i*sz)).take sz),eqN eq e sz n (i+1) xs ys with
   |some a,some b=>some (a&&b)
   |_,_=>none
  else none
def eqT(T:Tb):Nat→TypeId→List A→List A→Option Bool
 |0,_,_,_=>none
 |d+1,t,xs,ys =>
  match T t with
  |none=>none
  |some ty =>
   match ty.k with
   |.bool=>match xs,ys with
    |[.v (.bool a)],[.v (.bool b)]=>some (a==b)
    |_,_=>none
   |.int _=>match xs,ys with
    |[.v (.int k a)],[.v (.int k' b)]=>if k=k' then some (a==b)else none
    |_,_=>none
   |.str=>match xs,ys with
    |[.v (.string a)],[.v (.string b)]=>some (a==b)
    |_,_=>none
   |.struct fs=>if ty.plain then zZ T (eqT T d) fs xs ys else none
   |.array n e=>match T e with
    |some te=>eqN (eqT T d) e te.size n 0 xs ys
    |none=>none
   |_=>none
def nO:K→A→A→Option Bool
 |.slice _,a,b=>match a,b with
  |.ref _ _ _ _,.v (.slice none _ _)=>some false
  |.v (.slice none _ _),.ref _ _ _ _=>some false
  |.sl (_+1) _,.v (.slice none _ _)=>some false
  |.v (.slice none _ _),.sl (_+1) _=>some false
  |.v (.slice none _ _),.v (.slice none _ _)=>some true
  |.v (.slice (some _) _ _),.v (.slice none _ _)=>some false
  |_,_=>none
 |.ptr _,a,b=>match a,b with
  |.ptr _ _,.v (.pointer none)=>some false
  |.v (.pointer none),.ptr _ _=>some false
  |.fp _,.v (.pointer none)=>some false
  |.v (.pointer none),.fp _=>some false
  |.v (.pointer none),.v (.pointer none)=>some true
  |_,_=>none
 |.func,a,b=>match a,b with
  |.clo _ _ _,.v .nilFunc=>some false
  |.v .nilFunc,.clo _ _ _=>some false
  |.v (.func _ _ _),.v .nilFunc=>some false
  |.v .nilFunc,.v (.func _ _ _)=>some false
  |.v .nilFunc,.v .nilFunc=>some true
  |_,_=>none
 |_,_,_=>none
def pC(T:Tb)(t:TypeId)(ty:Ty)(a b:A):Option Bool :=
 match nO ty.k a b with
 |some r=>some r
 |none=>match a,b with
  |.agg xs,.agg ys=>if ty.k.agg&&ty.plain then eqT T 20 t xs ys else none
  |.v (.bool x),.v (.bool y)=>match ty.k with
   |.bool=>some (x==y)
   |_=>none
  |_,_=>none
def H5(T:Tb)(op:BinOp)(t:TypeId)(a b:A):Option A :=
 match T t with
 |none=>none
 |some ty=>match op,pC T t ty a b with
  |.eql,some r=>some (.v (.bool r))
  |.neq,some r=>some (.v (.bool !r))
  |_,_=>none
def nL(ty:Ty)(cs:List A)(off:Nat):Option A :=
 if off+ty.size≤cs.length then
  if ty.k.agg then some (.agg ((cs.drop off).take ty.size))else if ty.size=1 then cs[off]? else none
 else none
def bQ(f:A→Option A):List A→Option (List A)
 |[]=>some []
 |c::cs=>match f c,bQ f cs with
  |some x,some xs=>some (x::xs)
  |_,_=>none
def freeze(H:aG):Nat→A→Option A
 |0,_=>none
 |n+1,a=>match a with
  |.v x=>some (.v x)
  |.agg cs=>(bQ (freeze H n) cs).map .agg
  |.tup cs=>(bQ (freeze H n) cs).map .tup
  |.clo f fs caps=>match bQ (freeze H n) fs,bQ (freeze H n) caps with
   |some xs,some ys=>some (.clo f xs ys)
   |_,_=>none
  |.yl _=>none
  |.lrec _ _ _ _ _=>none
  |.it _=>none
  |.its _ _=>none
  |.sl len cs=>some (.sl len cs)
  |.fp cs=>some (.fp cs)
  |.mf cs=>some (.mf cs)
  |.mp b=>match H[b]? with
   |some (some k)=>(bQ (freeze H n) k.cs).map .mf
   |_=>none
  |.ptr b off=>match H[b]? with
   |some (some k)=>(bQ (freeze H n) (k.cs.drop off)).map .fp
   |_=>none
  |.ref b off len sz=>match H[b]? with
   |some (some k)=>if off+len*sz≤k.cs.length then(bQ (freeze H n) ((k.cs.drop off).take (len*sz))).map (.sl len)else none
   |_=>none
mutual
def nrm:A→A
 |.v x=>match x with
  |.slice none 0 0=>.sl 0 []
  |x=>.v x
 |.agg l=>.agg (fA l)
 |.tup l=>.tup (fA l)
 |.sl n l=>.sl n (fA l)
 |.fp l=>.fp (fA l)
 |.mf l=>.mf (fA l)
 |.clo f l r=>.clo f (fA l) (fA r)
 |.yl b=>.yl b
 |.lrec nt ps sl a b=>.lrec nt ps sl a b
 |.it b=>.it b
 |.its s p=>.its s p
 |.ptr b o=>.ptr b o
 |.ref b o n z=>.ref b o n z
 |.mp b=>.mp b
def fA:List A→List A
 |[]=>[]
 |x::l=>nrm x::fA l
end
def nP(md:MQ)(H:aG)(a:A):Option A:=match md with
 |.norm=>(freeze H 20 a).map nrm
 |_=>freeze H 20 a
def shut:A→Bool
 |.v _|.sl _ _|.fp _|.mf _=>true
 |.agg cs|.tup cs=>shutL cs
 |.clo _ fs caps=>shutL fs&&shutL caps
 |.ptr _ _|.ref _ _ _ _|.mp _|.yl _|.lrec _ _ _ _ _|.it _|.its _ _=>false
where
 shutL:List A→Bool
  |[]=>true
  |c::cs=>shut c&&shutL cs
def iA:A→Bool
 |.v _=>true
 |.agg cs|.tup cs=>flatL cs
 |.clo _ fs caps=>flatL fs&&flatL caps
 |.sl n cs=>Nat.beq n 0&&cs.isEmpty
 |_=>false
where
 flatL:List A→Bool
  |[]=>true
  |c::cs=>iA c&&flatL cs
def aV(H:aG):List A→Option (List A)
 |[]=>some []
 |a::l=>match freeze H 20 a,aV H l with
  |some x,some xs=>some (x::xs)
  |_,_=>none
def lC(G:Nat→Option (List Value))(H:aG):A→Option (List A)
 |.v (.pointer (some ⟨g,off,none⟩))=>match G g with
  |some xs=>some ((xs.drop off).map .v)
  |none=>none
 |.ptr b off=>match H[b]? with
  |some (some k)=>some (k.cs.drop off)
  |_=>none
 |.fp cs=>some cs
 |_=>none
def lJ(place:Nat→Option (Nat×Nat))(cs:List A):List (Nat×A)→Option (List A)
 |[]=>some cs
 |(i,x)::rest =>
  match place i with
  |none=>none
  |some (off,size) =>
   if(dT x).length=size∧off+size≤cs.length then lJ place (cs.take off++dT x++cs.drop (off+size)) rest else none
def lD(T:Tb):List (TypeId×Nat×Bool)→Option (List (Nat×Nat))
 |[]=>some []
 |(t,off,_)::fs=>match T t,lD T fs with
  |some ty,some l=>some ((off,ty.size)::l)
  |_,_=>none
def lI(e:Env):List (Nat×Operand)→Option (List (Nat×A))
 |[]=>some []
 |(i,x)::l=>match opnd e x,lI e l with
  |some a,some as=>some ((i,a)::as)
  |_,_=>none
def gJ(z:List Value):Nat→List A
 |0=>[]
 |n+1=>z.map .v++gJ z n
def bnd(len:Nat):Option A→Nat→Option Nat
 |none,d=>some d
 |some (.v (.int _ i)),_=>if 0≤i∧i≤len then some i.toNat else none
 |some _,_=>none
def sR(len:Nat)(lo hi:Option A):Option (Nat×Nat) :=
 match bnd len hi len with
 |none=>none
 |some h=>match bnd h lo 0 with
  |some l=>some (l,h)
  |none=>none
def kF(e:Env):Option Operand→Option (Option A)
 |none=>some none
 |some x=>(opnd e x).map some
abbrev eI:=FuncId→List A→Option A
inductive Tgt where
 |fn (f:FuncId)
 |yl (b:Nat)
abbrev Orc:=Tgt→List A→aG→Option (A×aG)
def callee:A→Option (Tgt×List A×List A)
 |.v (.func (.func f) fs caps)=>if fs.isEmpty&&caps.isEmpty then some (.fn f,[],[])else none
 |.clo f fs caps=>some (.fn f,fs,caps)
 |.yl b=>some (.yl b,[],[])
 |_=>none
def fL:K→Value→Bool
 |.bool,.bool _=>true
 |.int k,.int k' _=>decide (k'=k)
 |.str,.string _=>true
 |_,_=>false
def fZ:Value→Value→Bool
 |.bool a,.bool b=>a==b
 |.int _ a,.int _ b=>a==b
 |.string a,.string b=>a==b
 |_,_=>false
def kH(kd:K)(key:Value):List A→Nat→Option (Option (Nat×A))
 |[],_=>some none
 |.v x::a::l,i=>if fL kd x then(if fZ key x then some (some (i,a))else kH kd key l (i+1))else none
 |_,_=>none
def dX(H:aG):A→Option (List A)
 |.mf cs=>some cs
 |.v (.map none)=>some []
 |.mp b=>match H[b]? with
  |some (some k)=>some k.cs
  |_=>none
 |_=>none
def AN(ty:Ty):Option A:=if ty.k.agg then some (.agg (ty.zero.map .v))else match ty.zero with
 |[z]=>some (.v z)
 |_=>none
def nH(k:IntKind):List Value→Bool
 |[]=>true
 |.int k' _::l=>decide (k'=k)&&nH k l
 |_=>false
def kY(T:Tb)(tk:Ty)(x:Value):Bool:=fL tk.k x||match tk.k,x with
 |.array n el,.agg xs=>match T el with
  |some te=>match te.k with
   |.int k=>Nat.beq te.size 1&&(Nat.beq xs.size n&&nH k xs.toList)
   |_=>false
  |none=>false
 |_,_=>false
def tB:List A→Option (List Value)
 |[]=>some []
 |.v x::l=>(tB l).map fun r=>x::r
 |_=>none
def OE:A→Option Value
 |.v x=>some x
 |.agg cs=>(tB cs).map fun r=>.agg r.toArray
 |_=>none
def pQ(T:Tb)(kt:TypeId)(xs:List A):List A→Nat→Option (Option (Nat×A))
 |[],_=>some none
 |.v (.agg ys)::a::l,i=>match eqT T 20 kt xs (ys.toList.map .v)with
  |some true=>some (some (i,a))
  |some false=>pQ T kt xs l (i+1)
  |none=>none
 |_,_=>none
def CX(T:Tb)(kt:TypeId)(tk:Ty)(key:Value)(cs:List A):Option (Option (Nat×A)) :=
 bif fL tk.k key then kH tk.k key cs 0
 else bif kY T tk key then match key with
  |.agg xs=>pQ T kt (xs.toList.map .v) cs 0
  |_=>none
 else none
def bytesOf:List A→Option (List UInt8)
 |[]=>some []
 |.v (.int .u8 x)::l=>if 0≤x∧x<256 then(bytesOf l).map fun r=>UInt8.ofNat x.toNat::r else none
 |_=>none
def BN(T:Tb)(H:aG)(k k':K)(b off len sz:Nat):Option A:=match k,k',H[b]? with
 |.slice el,.str,some (some blk)=>match T el,bytesOf ((blk.cs.drop off).take len)with
  |some te,some l=>match te.k with
   |.int .u8=>if sz=1∧l.length=len then some (.v (.string ⟨l.toArray⟩))else none
   |_=>none
  |_,_=>none
 |_,_,_=>none
def aN(T:Tb)(e:Env)(H:aG):Op→Option A
 |.move x|.assign x=>opnd e x
 |.pick c a b=>match opnd e c,opnd e a,opnd e b with
  |some (.v (.bool t)),some x,some y=>some (bif t then x else y)
  |some (.v (.bool true)),some x,none=>some x
  |some (.v (.bool false)),none,some y=>some y
  |_,_,_=>none
 |.load t x=>match(opnd e x).bind (lC T.gl.tab H),T t with
  |some cs,some ty=>nL ty cs 0
  |_,_=>none
 |.nilCheck x=>match opnd e x with
  |some (.ptr b o)=>some (.ptr b o)
  |some (.fp cs)=>some (.fp cs)
  |some (.v (.pointer (some a)))=>some (.v (.pointer (some a)))
  |some (.clo f a b)=>some (.clo f a b)
  |some (.v (.func (.func f) a b))=>some (.v (.func (.func f) a b))
  |_=>none
 |.binOp op t x y _=>match opnd e x,opnd e y with
  |some (.v a),some (.v b)=>match xE op a b with
   |some r=>some (.v r)
   |none=>H5 T op t (.v a) (.v b)
  |some a,some b=>H5 T op t a b
  |_,_=>none
 |.unOp op _ x=>match op,opnd e x with
  |.neg,some (.v (.int k n))=>some (.v (.int k (k.wrap (0-n))))
  |.xor,some (.v (.int k n))=>some (.v (.int k (k.wrap (BitVec.ofInt k.bits (if k.signed then -1 else k.max) ^^^ BitVec.ofInt k.bits n).toNat)))
  |.not,some (.v (.bool b))=>some (.v (.bool !b))
  |_,_=>none
 |.convert src dst x=>match T src,T dst,opnd e x with
  |some _,some ty,some (.v (.int _ n))=>match ty.k with
   |.int k=>some (.v (.int k (k.wrap n)))
   |_=>none
  |some _,some ty,some (.v (.string s))=>match ty.k with
   |.str=>some (.v (.string s))
   |_=>none
  |some sty,some ty,some (.ref b off len sz)=>bif Nat.beq dst 9 then BN T H sty.k ty.k b off len sz else none
  |_,_,_=>none
 |.build t parts=>match T t,lI e parts.toList with
  |some ty,some ps =>
   match ty.k with
   |.struct fs=>match lD T fs with
    |some l=>(lJ (fun i=>l[i]?) (ty.zero.map .v) ps).map .agg
    |none=>none
   |.array _ el=>match T el with
    |some te=>(lJ (fun i=>some (i*te.size,te.size)) (ty.zero.map .v) ps).map .agg
    |none=>none
   |_=>none
  |_,_=>none
 |.fieldAddr t x f=>match T t,opnd e x with
  |some ty,some a=>match ty.k with
   |.struct fs=>match fs[f]? with
    |some (ft,off,_)=>match T ft with
     |some fty=>if 0<fty.size then
       match a with
       |.ptr b o=>some (.ptr b (o+off))
       |.fp cs=>some (.fp (cs.drop off))
       |_=>none
      else none
     |none=>none
    |none=>none
   |_=>none
  |_,_=>none
 |.field t x f=>match T t,opnd e x with
  |some ty,some (.agg cs)=>match ty.k with
   |.struct fs=>match fs[f]? with
    |some (ft,off,_)=>match T ft with
     |some fty=>nL fty cs off
     |none=>none
    |none=>none
   |_=>none
  |_,_=>none
 |.indexAddr t x i=>match T t,opnd e x,opnd e i with
  |some ty,some a,some (.v (.int _ n))=>match ty.k with
   |.slice el=>match T el with
    |some te=>match a with
     |.ref b off len sz=>if 0≤n∧n<len∧sz=te.size then some (.ptr b (off+n.toNat*te.size))else none
     |.sl len cs=>if 0≤n∧n<len then some (.fp (cs.drop (n.toNat*te.size)))else none
     |_=>none
    |none=>none
   |.array len el=>match T el with
    |some te=>if 0≤n∧n<len then
      match a with
      |.ptr b off=>some (.ptr b (off+n.toNat*te.size))
      |.v (.pointer (some ⟨g,off,none⟩))=>some (.v (.pointer (some ⟨g,off+n.toNat*te.size,none⟩)))
      |.fp cs=>some (.fp (cs.drop (n.toNat*te.size)))
      |_=>none
     else none
    |none=>none
   |_=>none
  |_,_,_=>none
 |.index t x i=>match T t,opnd e x,opnd e i with
  |some ty,some a,some (.v (.int _ n))=>match ty.k with
   |.array len el=>match T el,a with
    |some te,.agg cs=>if 0≤n∧n<len then nL te cs (n.toNat*te.size)else none
    |_,_=>none
   |.str=>match a with
    |.v (.string s)=>if 0≤n then(s[n.toNat]?).map fun b=>.v (.int .u8 b.toNat)else none
    |_=>none
   |_=>none
  |_,_,_=>none
 |.slice t x lo hi mx=>match mx,T t,opnd e x,kF e lo,kF e hi with
  |none,some ty,some a,some l,some h=>match ty.k with
   |.str=>match a with
    |.v (.string s)=>match sR s.size l h with
     |some (i,j)=>some (.v (.string (s.extract i j)))
     |none=>none
    |_=>none
   |.slice el=>match T el with
    |some te=>match a with
     |.ref b off len sz=>match sR len l h with
      |some (i,j)=>if sz=te.size then if i<len then some (.ref b (off+i*sz) (j-i) sz)else some (.sl 0 [])else none
      |none=>none
     |.sl len cs=>match sR len l h with
      |some (i,j)=>if cs.length=len*te.size then some (.sl (j-i) ((cs.drop (i*te.size)).take ((j-i)*te.size)))else none
      |none=>none
     |.v (.slice none 0 0)=>match sR 0 l h with
      |some _=>some (.v (.slice none 0 0))
      |none=>none
     |_=>none
    |none=>none
   |.array n el=>match T el,sR n l h with
    |some te,some (i,j)=>match a with
     |.fp cs=>if n*te.size≤cs.length then some (.sl (j-i) ((cs.drop (i*te.size)).take ((j-i)*te.size)))else none
     |.ptr b off=>match H[b]? with
      |some (some k)=>if k.whole&&Nat.ble (off+n*te.size) k.cs.length&&Nat.ble n maxLen then if i<n then some (.ref b (off+i*te.size) (j-i) te.size)else some (.sl 0 [])else none
      |_=>none
     |_=>none
    |_,_=>none
   |_=>none
  |_,_,_,_,_=>none
 |.extract x i=>match opnd e x with
  |some (.tup cs)=>cs[i]?
  |some (.v (.tuple xs))=>(xs[i]?).map ofV
  |_=>none
 |.lookup t m k ok=>match T t,opnd e m,(opnd e k).bind OE with
  |some ty,some mv,some key=>match ty.k with
   |.map kt et=>match T kt,T et,dX H mv with
    |some tk,some te,some es=>match CX T kt tk key es with
      |some (some (_,a))=>some (if ok then .tup [a,.v (.bool true)]else a)
      |some none=>match AN te with
       |some z=>some (if ok then .tup [z,.v (.bool false)]else z)
       |none=>none
      |none=>none
    |_,_,_=>none
   |_=>none
  |_,_,_=>none
 |.makeFunc fn first caps=>match fn,opnds e first.toList,opnds e caps.toList with
  |.func f,some xs,some ys=>some (.clo f xs ys)
  |_,_,_=>none
 |.call c=>match c.callee with
  |.builtin .len=>match opnds e c.args.toList,(c.argTypes[0]?).bind T.ty with
   |some [a],some ty=>match ty.k with
    |.str=>match a with
     |.v (.string s)=>some (.v (.int .i64 s.size))
     |_=>none
    |.array n _=>some (.v (.int .i64 n))
    |.slice _=>match a with
     |.ref _ _ len _=>some (.v (.int .i64 len))
     |.sl len _=>some (.v (.int .i64 len))
     |.v (.slice none n _)=>some (.v (.int .i64 n))
     |_=>none
    |_=>none
   |_,_=>none
  |.builtin .min=>match opnds e c.args.toList with
   |some (x::l)=>minA false x l
   |_=>none
  |.builtin .cap=>match opnds e c.args.toList,(c.argTypes[0]?).bind T.ty with
   |some [.v (.slice none _ n)],some ty=>match ty.k with
    |.slice _=>some (.v (.int .i64 n))
    |_=>none
   |_,_=>none
  |.builtin .unsafeSliceData=>match opnds e c.args.toList with
   |some [.v (.slice none _ _)]=>some (.v (.pointer none))
   |some [.ref b off (_+1) _]=>some (.ptr b off)
   |_=>none
  |.builtin .max=>match opnds e c.args.toList with
   |some (x::l)=>minA true x l
   |_=>none
  |_=>none
 |_=>none
where
 minA (mx:Bool) (x:A):List A→Option A
  |[]=>some x
  |y::l=>match x,y with
   |.v (.int k a),.v (.int _ b)=>minA mx (.v (.int k (bif mx then(if b > a then b else a)else(if b<a then b else a)))) l
   |_,_=>none
def calls(e:Env):Op→Option (Tgt×List A)
 |.call c=>match c.callee with
  |.value f=>match(opnd e f).bind callee,opnds e c.args.toList with
   |some (g,fs,caps),some as=>some (g,fs++as++caps)
   |_,_=>none
  |_=>none
 |_=>none
def iK(T:Tb)(e:Env)(t:TypeId)(len:Nat)(parts:Array (Nat×Operand)):Option (TypeId×Nat×List A) :=
 match T t with
 |some ty=>match ty.k with
  |.slice el=>match T el,lI e parts.toList with
   |some te,some ps=>if len*te.size≤2 ^ 24∧0<te.size∧len≤maxLen∧te.zero.length=te.size then
     (lJ (fun i=>some (i*te.size,te.size)) (gJ te.zero len) ps).map fun cs=>(el,te.size,cs)
    else none
   |_,_=>none
  |_=>none
 |none=>none
def gK(T:Tb)(e:Env)(H:aG)(t:TypeId)(m k v:Operand):Option (A×aG) :=
 match T t,opnd e m,opnd e k,opnd e v with
 |some ty,some (.mp b),some (.v key),some a=>match ty.k,H[b]? with
  |.map kt _,some (some blk)=>match T kt with
   |some tk=>if fL tk.k key then match kH tk.k key blk.cs 0 with
     |some none=>some (.v undef,H.set b (some ⟨blk.e,blk.cs++[.v key,a],blk.whole⟩))
     |some (some (i,_))=>some (.v undef,H.set b (some ⟨blk.e,blk.cs.set (2*i+1) a,blk.whole⟩))
     |none=>none
    else none
   |none=>none
  |_,_=>none
 |_,_,_,_=>none
def m7:List Value→List Value→Bool
 |[],[]=>true
 |.int k a::l,.int k' b::l'=>decide (k=k')&&(decide (a=b)&&m7 l l')
 |_,_=>false
def pJ(key:Value):Option A→Bool
 |some (.v (.agg ys))=>match key with
  |.agg xs=>m7 ys.toList xs.toList
  |_=>false
 |_=>false
def kB(T:Tb)(e:Env)(H:aG)(t:TypeId)(m k:Operand):Option (A×aG) :=
 match T t,opnd e m,(opnd e k).bind OE with
 |some ty,some (.mp b),some key=>match ty.k,H[b]? with
  |.map kt et,some (some blk)=>match T kt,(T et).bind AN with
   |some tk,some z=>match CX T kt tk key blk.cs with
    |some none=>some (.tup [z,.v (.int .i64 (blk.cs.length/2:Nat))],H.set b (some ⟨blk.e,blk.cs++[.v key,z],blk.whole⟩))
    |some (some (i,a))=>bif fL tk.k key||pJ key blk.cs[2*i]? then some (.tup [a,.v (.int .i64 i)],H.set b (some blk))else none
    |none=>none
   |_,_=>none
  |_,_=>none
 |_,_,_=>none
def jP(e:Env)(H:aG)(m s x:Operand):Option (A×aG) :=
 match opnd e m,opnd e s,opnd e x with
 |some (.mp b),some (.v (.int _ i)),some a=>match H[b]? with
  |some (some blk)=>if 0≤i∧2*i.toNat+1<blk.cs.length then some (.v undef,H.set b (some ⟨blk.e,blk.cs.set (2*i.toNat+1) a,blk.whole⟩))else none
  |_=>none
 |_,_,_=>none
def DH(l:List UInt8):List A:=l.map fun b=>.v (.int .u8 b.toNat)
def WS(T:Tb)(H:aG)(pt:TypeId)(p:A)(n:Int):Option (A×aG) :=
 match p with
 |.v (.pointer none)=>if n=0 then some (.v (.string .empty),H)else none
 |.ptr b 0=>match T pt,H[b]? with
  |some ty,some (some k)=>match ty.k with
   |.ptr el=>match T el,bytesOf (k.cs.take n.toNat)with
    |some te,some l=>if te.size=1∧k.e=el∧0<n∧l.length=n.toNat∧l.length≤maxLen then some (.v (.string ⟨l.toArray⟩),H.set b none)else none
    |_,_=>none
   |_=>none
  |_,_=>none
 |_=>none
def T7(e:Env)(H:aG)(x:Operand):Option (A×aG) :=
 match opnd e x with
 |some (.it b)=>match H[b]? with
  |some (some k)=>match k.cs with
   |[.its s p]=>match s[p]? with
    |some u=>bif Nat.blt u.toNat 128 then some (.tup [.v (.bool true),.v (.int .i64 p),.v (.int .i32 u.toNat)],H.set b (some ⟨0,[.its s (p+1)],true⟩))else none
    |none=>some (.tup [.v (.bool false)],H)
   |_=>none
  |_=>none
 |_=>none
def aR(T:Tb)(e:Env)(H:aG):Op→Option (A×aG)
 |.alloc t=>match T t with
  |some ty=>some (.ptr H.length 0,H++[some ⟨t,ty.zero.map .v,true⟩])
  |none=>none
 |.range t x=>match T t,opnd e x with
  |some ty,some (.v (.string s))=>match ty.k with
   |.str=>some (.it H.length,H++[some ⟨0,[.its s 0],true⟩])
   |_=>none
  |_,_=>none
 |.next x str=>bif str then T7 e H x else none
 |.insert t m k v=>gK T e H t m k v
 |.mapUpdate t m k v=>gK T e H t m k v
 |.mapEntry t m k=>kB T e H t m k
 |.entryStore _ m s x=>jP e H m s x
 |.makeMap t none=>match T t with
  |some ty=>match ty.k with
   |.map _ _=>some (.mp H.length,H++[some ⟨t,[],true⟩])
   |_=>none
  |none=>none
 |.box t x=>match opnd e x with
  |some a=>if dE (dT a)then some (.ptr H.length 0,H++[some ⟨t,dT a,true⟩])else none
  |none=>none
 |.buildSlice t len parts=>match iK T e t len parts with
  |some (el,sz,cs)=>if dE cs then some (.ref H.length 0 len sz,H++[some ⟨el,cs,true⟩])else none
  |none=>none
 |.store t p x=>match opnd e p,opnd e x,T t with
  |some (.ptr b off),some a,some ty=>match H[b]? with
   |some (some k) =>
    if(dT a).length=ty.size∧off+ty.size≤k.cs.length∧dE (dT a)then some (.v undef,H.set b (some ⟨k.e,k.cs.take off++dT a++k.cs.drop (off+ty.size),k.whole⟩))else none
   |_=>none
  |_,_,_=>none
 |.makeSlice t l c=>match T t,opnd e l,opnd e c with
  |some ty,some (.v (.int _ n)),some (.v (.int _ m))=>match ty.k with
   |.slice el=>match T el with
    |some te=>if 0≤n∧n≤m∧m*te.bytes≤2 ^ 47∧m≤(maxLen:Int)∧0<te.size∧te.zero.length=te.size then some (.ref H.length 0 n.toNat te.size,H++[some ⟨el,gJ te.zero m.toNat,true⟩])else none
    |none=>none
   |_=>none
  |_,_,_=>none
 |.call c=>match c.callee with
  |.builtin .append=>match opnds e c.args.toList,c.argTypes.toList with
   |some [s,x],[t,t']=>match T t with
    |some ty=>match ty.k with
     |.slice el=>match T el with
      |some te=>match srcT H te t t' x with
       |some (m,news)=>if news.length=m*te.size∧te.zero.length=te.size∧dE news then
        match s with
        |.v (.slice none 0 0) =>
         if m=0 then some (s,H)
         else if m≤maxLen∧m*te.bytes≤2 ^ 47 then some (.ref H.length 0 m te.size,H++[some ⟨el,news,false⟩])else none
        |.ref b 0 n sz=>match H[b]? with
         |some (some k) =>
          if sz=te.size∧k.e=el∧n*sz≤k.cs.length∧n+m≤maxLen∧(n+m)*te.bytes≤2 ^ 47 then
           some (.ref H.length 0 (n+m) sz,H.set b none++[some ⟨el,k.cs.take (n*sz)++news,false⟩])
          else none
         |_=>none
        |_=>none
        else none
       |none=>none
      |none=>none
     |_=>none
    |none=>none
   |_,_=>none
  |.builtin .unsafeString=>match opnds e c.args.toList,c.argTypes[0]? with
   |some [p,.v (.int .i64 n)],some pt=>WS T H pt p n
   |_,_=>none
  |.builtin .copy=>match opnds e c.args.toList,(c.argTypes[0]?).bind T.ty with
   |some [d,x],some ty=>match ty.k with
    |.slice el=>match T el with
     |some te=>match srcL H te.size x with
      |some (m,news)=>match d with
       |.ref b off n sz=>match H[b]? with
        |some (some k) =>
         let j:=min m n
         let new:=news.take (j*sz)
         if sz=te.size∧news.length=m*te.size∧off+j*sz≤k.cs.length∧dE new then
          some (.v (.int .i64 j),H.set b (some ⟨k.e,k.cs.take off++new++k.cs.drop (off+j*sz),k.whole⟩))
         else none
        |_=>none
       |.v (.slice none 0 0)=>some (.v (.int .i64 0),H)
       |.sl 0 _=>some (.v (.int .i64 0),H)
       |_=>none
      |none=>none
     |none=>none
    |_=>none
   |_,_=>none
  |_=>none
 |_=>none
where
 srcT (H:aG) (te:Ty) (t t':TypeId) (x:A):Option (Nat×List A) :=
  bif Nat.beq t t' then srcL H te.size x
  else match T t' with
   |some ty=>match ty.k,x with
    |.str,.v (.string s)=>bif Nat.beq te.size 1 then some (s.size,DH s.data.toList)else none
    |.int _,.v (.int .i64 l)=>if 0≤l∧l≤maxLen∧0<te.size∧te.zero.length=te.size then some (l.toNat,gJ te.zero l.toNat)else none
    |_,_=>none
   |none=>none
 srcL (H:aG) (sz:Nat):A→Option (Nat×List A)
  |.sl n cs=>some (n,cs)
  |.v (.slice none 0 0)=>some (0,[])
  |.v (.slice (some _) 0 _)=>some (0,[])
  |.ref b off n s=>match H[b]? with
   |some (some k)=>if s=sz∧off+n*s≤k.cs.length then some (n,(k.cs.drop off).take (n*s))else none
   |_=>none
  |_=>none
structure St where
 env:Env
 H:aG
def wants(e:Env):Option (Nat×Bool)→Option Bool
 |none=>some true
 |some (t,b)=>match cI e t with
  |some (.v (.bool x))=>some (x==b)
  |some (.v (.tuple _))=>some false
  |_=>none
def d9(T:Tb)(q:eI)(st:St)(op:Op):Option A :=
 match calls st.env op with
 |some (.fn f,as)=>match aV st.H as with
  |some as'=>match q f as' with
   |some r=>if(as.all shut)||iA r then some r else none
   |none=>none
  |none=>none
 |some (.yl _,_)=>none
 |none=>match op with
  |.buildSlice t len parts=>match iK T st.env t len parts with
   |some (_,_,cs)=>if(shut.shutL cs)&&dE cs then some (.sl len cs)else none
   |none=>none
  |_=>aN T st.env st.H op
def bZ(T:Tb)(o:Orc)(st:St)(op:Op):Option (A×aG) :=
 match calls st.env op with
 |some (f,as)=>o f as st.H
 |none=>match aR T st.env st.H op with
  |some r=>some r
  |none=>(aN T st.env st.H op).map fun a=>(a,st.H)
def bM(T:Tb)(q:eI)(o:Orc):Nat→List MOp→St→Option St
 |_,[],st=>some st
 |n,m::ms,st=>match wants st.env m.guard with
  |none=>none
  |some false=>bM T q o (n-1) ms ⟨put st.env m.dst (.v undef),st.H⟩
  |some true=>match n with
   |n+1=>match d9 T q st m.op with
    |some a=>bM T q o n ms ⟨put st.env m.dst a,st.H⟩
    |none=>none
   |0=>match bZ T o st m.op with
    |some (a,H')=>bM T q o 0 ms ⟨put st.env m.dst a,H'⟩
    |none=>none
def eqV:Value→Value→Bool
 |.int k a,.int k' b=>decide (k=k')&&decide (a=b)
 |.bool a,.bool b=>a==b
 |.string a,.string b=>a==b
 |.slice none a b,.slice none c d=>Nat.beq a c&&Nat.beq b d
 |.slice (some p) a b,.slice (some q) c d=>decide (p=q)&&(Nat.beq a c&&Nat.beq b d)
 |.pointer none,.pointer none=>true
 |.pointer (some a),.pointer (some b)=>decide (a=b)
 |.map none,.map none=>true
 |.nilFunc,.nilFunc=>true
 |.nilIface,.nilIface=>true
 |.func (.func f) a b,.func (.func g) c d=>Nat.beq f g&&(a.isEmpty&&b.isEmpty&&c.isEmpty&&d.isEmpty)
 |_,_=>false
mutual
def eqA:A→A→Bool
 |.v x,b=>match b with
  |.v y=>eqV x y
  |_=>false
 |.agg l,b=>match b with
  |.agg r=>eqL l r
  |_=>false
 |.tup l,b=>match b with
  |.tup r=>eqL l r
  |_=>false
 |.ptr i o,b=>match b with
  |.ptr j p=>Nat.beq i j&&Nat.beq o p
  |_=>false
 |.ref i o n z,b=>match b with
  |.ref j p m y=>Nat.beq i j&&Nat.beq o p&&Nat.beq n m&&Nat.beq z y
  |_=>false
 |.sl n l,b=>match b with
  |.sl m r=>Nat.beq n m&&eqL l r
  |_=>false
 |.fp l,b=>match b with
  |.fp r=>eqL l r
  |_=>false
 |.mp i,b=>match b with
  |.mp j=>Nat.beq i j
  |_=>false
 |.mf l,b=>match b with
  |.mf r=>eqL l r
  |_=>false
 |.clo f l r,b=>match b with
  |.clo g l' r'=>Nat.beq f g&&eqL l l'&&eqL r r'
  |_=>false
 |.yl _,_=>false
 |.lrec _ _ _ _ _,_=>false
 |.it _,_=>false
 |.its _ _,_=>false
def eqL:List A→List A→Bool
 |[],b=>b.isEmpty
 |x::l,b=>match b with
  |y::r=>eqA x y&&eqL l r
  |[]=>false
end
def mJ(T:Tb)(st:St)(m:MOp):Bool :=
 match wants st.env m.guard with
 |none=>false
 |some false=>true
 |some true=>match calls st.env m.op with
  |some (.fn _,l)=>l.all shut
  |some (.yl _,_)=>false
  |none=>match m.op with
   |.buildSlice _ _ _=>true
   |_=>match m.dst with
    |none=>false
    |some d=>match aN T st.env st.H m.op,cI st.env d with
     |some y,some x=>eqA y x
     |_,_=>false
def againAll(T:Tb)(st:St):List MOp→Bool
 |[]=>true
 |m::ms=>mJ T st m&&againAll T st ms
inductive Ex where
 |go
 |out (id:Nat)
 |back
def exOfN:Nat→Ex
 |0=>.go
 |1=>.back
 |n+2=>.out n
def I5:Ex→Nat
 |.go=>0
 |.back=>1
 |.out n=>n+2
structure fK where
 nt:Nat
 ps:List Nat
 sl:List Nat
 a:M
 b:M
 s:Int
 p:Int
 vs:List A
def bN(H:aG)(b:Nat):Option fK:=match H[b]? with
 |some (some k)=>match k.cs with
  |.lrec nt ps sl a bd::.v (.int .i64 s)::.v (.int .i64 p)::vs=>some ⟨nt,ps,sl,a,bd,s,p,vs⟩
  |_=>none
 |_=>none
def fK.blk(r:fK)(s p:Int):Blk:=⟨0,.lrec r.nt r.ps r.sl r.a r.b::.v (.int .i64 s)::.v (.int .i64 p)::r.vs,true⟩
def pending(H:aG)(b:Nat):Option Ex:=match bN H b with
 |some r=>if r.s=1 then none else if 0≤r.p then some (exOfN r.p.toNat)else none
 |none=>none
def gP(nt:Nat)(ps:List Nat)(a b:M)(e:Env):Blk:=⟨0,.lrec nt ps (e.map (·.1)) a b::.v (.int .i64 0)::.v (.int .i64 0)::e.map (·.2),true⟩
def bH(T:Tb)(q:eI)(o:Orc):Nat→M→St→Option (Ex×St)
 |0,_,_=>none
 |n+1,m,st=>match m with
  |.skip=>some (.go,st)
  |.reg keep ops free=>match bM T q o free ops ⟨dU st.env keep,st.H⟩with
   |some st'=>some (.go,st')
   |none=>none
  |.ops ops=>match bM T q o 0 ops st with
   |some st'=>some (.go,st')
   |none=>none
  |.again ops=>bif againAll T st ops then some (.go,st)else none
  |.seq a b=>match bH T q o n a st with
   |some (.go,st')=>bH T q o n b st'
   |r=>r
  |.cond c a b=>match opnd st.env c with
   |some (.v (.bool t))=>bH T q o n (bif t then a else b) st
   |_=>none
  |.block id a=>match bH T q o n a st with
   |some (.out j,st')=>bif Nat.beq j id then some (.go,st')else some (.out j,st')
   |r=>r
  |.loop a=>match bH T q o n a st with
   |some (.go,st')=>bH T q o n (.loop a) st'
   |r=>r
  |.rf g nt ps sl a b=>match(opnd st.env g).bind callee with
   |some (.fn f,fs,caps) =>
    match o (.fn f) (fs++[.yl st.H.length]++caps) (st.H++[some (gP nt ps a b (dU st.env sl))])with
    |some (_,H')=>match pending H' st.H.length with
     |some ex=>some (ex,⟨st.env,H'.set st.H.length none⟩)
     |none=>none
    |none=>none
   |_=>none
  |.exit id=>some (.out id,st)
  |.ret=>some (.back,st)
  |.bad=>none
def iR:Nat→List A→Env
 |_,[]=>[]
 |i,a::l=>(i,a)::iR (i+1) l
def p9(T:Tb)(st:St):ResultVar→Option A
 |.tmp t=>cI st.env t
 |.cell p t=>match(cI st.env p).bind (lC T.gl.tab st.H),T t with
  |some cs,some ty=>nL ty cs 0
  |_,_=>none
def mC(T:Tb)(st:St):List ResultVar→Option (List A)
 |[]=>some []
 |r::rs=>match p9 T st r,mC T st rs with
  |some a,some as=>some (a::as)
  |_,_=>none
def dF(T:Tb)(st:St)(rs:List ResultVar):Option A :=
 match mC T st rs with
 |some [a]=>some a
 |some as=>some (.tup as)
 |none=>none
structure Ctx where
 T:Tb
 B:FuncId→Option MFn
 X:FuncId→List A→Option A
 XO:FuncId→Option (List A→aG→Option (A×aG))
def aJ(C:Ctx)(f:FuncId):Bool :=
 match C.B f with
 |some m=>match m.mode with
  |.pass=>true
  |_=>false
 |none=>false
def zY(C:Ctx)(f:FuncId):Bool :=
 match C.B f with
 |some m=>match m.mode with
  |.trim=>true
  |_=>false
 |none=>false
mutual
def uX(n:Nat):A→Bool
 |.v _|.sl _ _|.fp _|.mf _|.its _ _|.lrec _ _ _ _ _=>true
 |.agg cs|.tup cs=>DT n cs
 |.clo _ fs caps=>DT n fs&&DT n caps
 |.ptr b _|.ref b _ _ _|.mp b|.yl b|.it b=>Nat.blt b n
def DT(n:Nat):List A→Bool
 |[]=>true
 |c::cs=>uX n c&&DT n cs
end
def ZJ(n:Nat):Nat→aG→Bool
 |0,_=>true
 |_,[]=>true
 |k+1,o::H=>(match o with
  |some blk=>DT n blk.cs
  |none=>true)&&ZJ n k H
def GY(n:Nat):Option (A×aG)→Option (A×aG)
 |some (a,H)=>bif uX n a&&ZJ n n H then some (a,H.take n)else none
 |none=>none
def dW(C:Ctx)(q:eI)(o:Orc)(n:Nat)(m:MFn)(as:List A)(H:aG):Option (A×aG) :=
 if as.length≤m.nt then
  match bH C.T q o n m.body ⟨iR 0 as,H⟩with
  |some (.go,st)|some (.back,st)=>match dF C.T st m.res with
   |some a=>some (a,st.H)
   |none=>none
  |_=>none
 else none
def dY:List Nat→List A→Env→Env
 |s::l,x::xs,e=>dY l xs ((s,x)::e)
 |_,_,e=>e
def iW(T:Tb)(q:eI)(o:Orc)(n:Nat)(b:Nat)(as:List A)(H:aG):Option (A×aG) :=
 match bN H b with
 |some r =>
  if r.s=0∧as.length=r.ps.length then
   match bH T q o n r.a ⟨dY r.ps as (dY r.sl r.vs []),H⟩with
   |some (.go,s1)=>match bN s1.H b with
    |some r1=>if r1.s=0 then match bH T q o n r.b ⟨s1.env,s1.H.set b (some (r1.blk 1 r1.p))⟩with
      |some (ex,s2)=>match bN s2.H b with
       |some r2=>match ex with
        |.go=>some (.v (.bool true),s2.H.set b (some (r2.blk 0 0)))
        |ex=>some (.v (.bool false),s2.H.set b (some (r2.blk 2 (I5 ex))))
       |none=>none
      |none=>none
     else none
    |none=>none
   |_=>none
  else none
 |none=>none
def bA(C:Ctx):Nat→eI
 |0,_,_=>none
 |n+1,f,as=>match C.X f as with
  |some r=>some r
  |none=>match C.B f with
   |none=>none
   |some m=>match dW C (bA C n) (callO n) n m as []with
    |some (a,H)=>nP m.mode H a
    |none=>none
where
 callO:Nat→Orc
  |0,_,_,_=>none
  |n+1,.fn f,as,H=>match C.XO f with
   |some g=>g as H
   |none =>
    bif aJ C f then
     match C.B f with
     |none=>none
     |some m=>dW C (bA C n) (callO n) n m as H
    else bif zY C f then
     match C.B f with
     |none=>none
     |some m=>GY H.length (dW C (bA C n) (callO n) n m as H)
    else match aV H as with
     |some as'=>match bA C n f as' with
      |some r=>if(as.all shut)||iA r then some (r,H)else none
      |none=>none
     |none=>none
  |n+1,.yl b,as,H=>iW C.T (bA C n) (callO n) n b as H
end Go.Proofs.YtpdphobnchajbaaGreatDoor.Ev
namespace Go.Proofs.YtpdphobnchajbaaGreatDoor.Ev
open Go Go.RowKit
variable{P:Program}{T:Tb}
def TOk(P:Program)(T:Tb):Prop:=∀ t ty,T t=some ty→bC P t=some ty
structure iL(P:Program)(t:TypeId)(ty:Ty):Prop where
 info:∃ i z,P.info? t=some i∧i.size=ty.size∧i.bytes=ty.bytes∧i.zero=some z∧vJ ty.k z=some ty.zero
 desc:∃ d,P.underlying t=some d∧kOf d=ty.k
 plain:ty.plain=true→P.eqGuardType P.depth t=false∧P.stoodInHeld t=false
theorem aJB{t:TypeId}{ty:Ty}(h:bC P t=some ty):iL P t ty:=by
 unfold bC at h
 cases hi:P.info? t with
 |none=>simp[hi]at h
 |some i =>
  cases hd:P.underlying t with
  |none=>simp[hi,hd]at h
  |some d =>
   simp only[hi,hd]at h
   cases hz:i.zero with
   |none=>simp[hz]at h
   |some z =>
    simp only[hz,Option.bind_some]at h
    cases hz':vJ (kOf d) z with
    |none=>simp[hz']at h
    |some zs =>
     simp only[hz',Option.some.injEq]at h
     subst h
     exact⟨⟨i,z,hi,rfl,rfl,hz,hz'⟩,⟨d,hd,rfl⟩,fun hp=>by simpa using hp⟩
theorem TOk.facts(hT:TOk P T){t:TypeId}{ty:Ty}(h:T t=some ty):iL P t ty:=aJB (hT t ty h)
section
variable{t:TypeId}{ty:Ty}(F:iL P t ty)(w:World)
include F
theorem iL.run_sizeOf:(sizeOf t).run P w=.ok ty.size w:=by
 obtain⟨i,z,h,h1,-⟩:=F.info
 simp[sizeOf,typeInfo,h,h1]
theorem iL.run_under:∃ d,(underlying t).run P w=.ok d w∧kOf d=ty.k:=by
 obtain⟨d,h,h1⟩:=F.desc
 exact⟨d,run_underlying h w,h1⟩
theorem iL.run_isAgg:(isAgg t).run P w=.ok ty.k.agg w:=by
 obtain⟨d,h,h1⟩:=F.run_under w
 simp only[isAgg,Sem.run_bind,h,Result.andThen_ok]
 rw[← h1]
 cases d<;>rfl
theorem iL.zero:∃ z,(zeroValue t).run P w=.ok z w∧z.cells.toList=ty.zero∧(ty.k.agg=true→z=.agg ty.zero.toArray):=by
 obtain⟨i,z,h,-,-,h3,h4⟩:=F.info
 refine⟨z,by simp[zeroValue,typeInfo,h,h3],?_,?_⟩
 ·unfold vJ at h4
  split at h4
  ·split at h4
   ·simpa[Value.cells]using h4
   ·cases h4
  ·split at h4
   ·cases h4
   ·rename_i hx _
    simp only[Option.some.injEq]at h4
    rw[← h4]
    cases z<;>simp_all [Value.cells]
 ·intro ha
  unfold vJ at h4
  split at h4
  ·simp only[ha,if_true,Option.some.injEq]at h4
   rw[← h4]
  ·simp[ha]at h4
end
def cF(c:Cfg)(e:Env)(a:Act):Prop:=∀ t x,cI e t=some x→R c.ρ c.own c.w x (a.tmps.getD t undef)
section
variable{c:Cfg}{e:Env}{a:Act}
theorem aE2{ρ:List Nat}{own:Nat→Prop}{w:World}(x:Value):R ρ own w (ofV x) x:=by
 unfold ofV
 split
 ·rename_i xs
  rw[R]
  exact⟨xs.toList,by simp,RL.exact _⟩
 ·rw[R]
theorem cF.opnd(he:cF c e a){x:Operand}{z:A}(h:opnd e x=some z):R c.ρ c.own c.w z (a.eval x):=by
 cases x with
 |tmp t=>exact he t z h
 |const v =>
  obtain rfl:=Option.some.inj h
  exact aE2 v
 |func f =>
  obtain rfl:=Option.some.inj h
  rw[R]
  rfl
 |global g =>
  obtain rfl:=Option.some.inj h
  rw[R]
  rfl
theorem cF.opnds(he:cF c e a):∀{l:List Operand} {zs:List A},opnds e l=some zs→RL c.ρ c.own c.w zs (l.map a.eval)
 |[],zs,h=>by obtain rfl:=Option.some.inj h;exact RL.nil
 |x::l,zs,h=>by
  unfold Ev.opnds at h
  cases h1:Ev.opnd e x with
  |none=>simp[h1]at h
  |some z =>
   cases h2:Ev.opnds e l with
   |none=>simp[h1,h2]at h
   |some zs' =>
    simp only[h1,h2,Option.some.injEq]at h
    subst h
    exact RL.cons (he.opnd h1) (he.opnds h2)
theorem R.open_{own:Nat→Prop}{w:World}{ρ:List Nat}{z:A}{y:Value}(h:R [] own w z y):R ρ own w z y :=
 R.keep ⟨List.nil_prefix,Nat.le_refl _,fun _ _ h=>⟨h,rfl⟩,fun _ cur _ fz h=>⟨cur,fz,h,rfl⟩,fun _ es n h=>⟨es,n,h⟩,fun _ o h _=>⟨o,h,rfl⟩⟩ z y h
theorem RL.open_{own:Nat→Prop}{w:World}{ρ:List Nat}{z:List A}{y:List Value}(h:RL [] own w z y):RL ρ own w z y :=
 RL.keep ⟨List.nil_prefix,Nat.le_refl _,fun _ _ h=>⟨h,rfl⟩,fun _ cur _ fz h=>⟨cur,fz,h,rfl⟩,fun _ es n h=>⟨es,n,h⟩,fun _ o h _=>⟨o,h,rfl⟩⟩ z y h
theorem Ok.lies(ok:Ok T.gl c){b g:Nat}{k:Blk}(hb:c.H[b]?=some (some k))(hg:c.ρ[b]?=some g)(hc0:∃ cur e fz,c.w.heap[g]?=some (.cells cur e fz)) :
  ∃ cur xs,c.w.heap[g]?=some (.cells cur k.e (0,0))∧RL c.ρ c.own c.w k.cs xs∧p7 c.w g 0 xs∧xs <+: cur.toList∧(k.whole=true→cur.size=k.cs.length):=by
 obtain⟨cur0,e0,fz0,hc0⟩:=hc0
 obtain⟨cur,xs,h1,h2,h3,h4⟩:=ok.cells (e:=k.e) (cs:=k.cs) (wh:=k.whole) hb hg hc0
 refine⟨cur,xs,h1,h2,fun i x hx=>?_,h3,h4⟩
 have hc:cur[i]?=some x:=by
  have hlt:=(List.getElem?_eq_some_iff.1 hx).1
  have:=h3.getElem hlt
  have h5:cur.toList[i]?=some x:=by
   rw[List.getElem?_eq_getElem (Nat.lt_of_lt_of_le hlt h3.length_le),← this]
   exact congrArg some (List.getElem?_eq_some_iff.1 hx).2
  simpa using h5
 simp[World.cell?,h1,hc]
theorem KE(ok:Ok T.gl c){p:A}{y:Value}{cs:List A}(h:lC T.gl.tab c.H p=some cs)(hr:R c.ρ c.own c.w p y) :
  ∃ g off xs,y=.pointer (some ⟨g,off,none⟩)∧RL c.ρ c.own c.w cs xs∧p7 c.w g off xs:=by
 cases p with
 |ptr b off =>
  unfold lC at h
  rw[R]at hr
  obtain⟨g,hg,rfl,hsh⟩:=hr
  cases hb:c.H[b]? with
  |none=>simp[hb]at h
  |some k =>
   cases k with
   |none=>simp[hb]at h
   |some k =>
    simp only[hb,Option.some.injEq]at h
    subst h
    obtain⟨cur,xs,-,h2,h3,-⟩:=ok.lies hb hg hsh
    refine⟨g,off,xs.drop off,rfl,h2.drop off,?_⟩
    simpa using h3.drop off
 |fp cs' =>
  unfold lC at h
  obtain rfl:=Option.some.inj h
  rw[R]at hr
  obtain⟨g,off,xs,h1,-,-,h4,h5⟩:=hr
  exact⟨g,off,xs,h1,h4.open_,h5⟩
 |v x =>
  rw[R]at hr
  subst hr
  unfold lC at h
  split at h
  ·rename_i g off heq
   cases heq
   split at h
   ·rename_i vs hg
    obtain rfl:=Option.some.inj h
    obtain⟨-,-,h3,-⟩:=ok.glob.1 _ _ hg
    exact⟨_,_,vs.drop off,rfl,RL.exact _,by simpa using h3.drop off⟩
   ·cases h
  ·rename_i heq
   cases heq
  ·rename_i heq
   cases heq
  ·cases h
 |_=>simp[lC]at h
theorem wC{t:TypeId}{ty:Ty}(F:iL P t ty){w:World}{ρ:List Nat}{own:Nat→Prop}{g off:Nat}{cs:List A}{xs:List Value}{x:A}
  (h:nL ty cs 0=some x) (hr:RL ρ own w cs xs) (hl:p7 w g off xs):∃ y,(loadVar t ⟨g,off,none⟩).run P w=.ok y w∧R ρ own w x y:=by
 unfold nL at h
 simp only[Nat.zero_add,List.drop_zero]at h
 split at h
 ·rename_i hsz
  simp only[loadVar,Sem.run_bind,F.run_isAgg w,Result.andThen_ok]
  by_cases ha:ty.k.agg=true
  ·simp only[ha,if_true,Option.some.injEq]at h ⊢
   subst h
   have hlen:(xs.take ty.size).length=ty.size:=by rw[List.length_take,hr.length];omega
   have hrun:=run_loadCells_list (P:=P) w ⟨g,off,none⟩ (xs.take ty.size) fun j v hv=>by
    rw[Addr.add_lit]
    exact hl.take ty.size j v hv
   rw[hlen]at hrun
   refine⟨.agg (xs.take ty.size).toArray,by simp[F.run_sizeOf w,hrun],?_⟩
   rw[R]
   exact⟨_,rfl,hr.take _⟩
  ·simp only[Bool.not_eq_true]at ha
   simp only[ha,Bool.false_eq_true,if_false]at h ⊢
   split at h
   ·obtain⟨y,hy,hry⟩:=hr.get 0 x h
    have:=hl 0 y hy
    refine⟨y,?_,hry⟩
    simp only[Nat.add_zero]at this
    simp[this]
   ·cases h
 ·cases h
theorem AZ{t:TypeId}{ty:Ty}(F:iL P t ty){w:World}{ρ:List Nat}{own:Nat→Prop}{off:Nat}{cs:List A}{xs:List Value}{x:A}
  (h:nL ty cs off=some x) (hr:RL ρ own w cs xs):∃ y,(part t xs.toArray off).run P w=.ok y w∧R ρ own w x y:=by
 unfold nL at h
 split at h
 ·rename_i hsz
  simp only[part,Sem.run_bind,F.run_isAgg w,Result.andThen_ok]
  by_cases ha:ty.k.agg=true
  ·simp only[ha,if_true,Option.some.injEq]at h ⊢
   subst h
   refine⟨.agg ((xs.drop off).take ty.size).toArray,by simp[F.run_sizeOf w,List.extract_eq_take_drop],?_⟩
   rw[R]
   exact⟨_,rfl,(hr.drop _).take _⟩
  ·simp only[Bool.not_eq_true]at ha
   simp only[ha,Bool.false_eq_true,if_false]at h ⊢
   split at h
   ·obtain⟨y,hy,hry⟩:=hr.get off x h
    exact⟨y,by simp[hy],hry⟩
   ·cases h
 ·cases h
end
end Go.Proofs.YtpdphobnchajbaaGreatDoor.Ev
namespace Go.Proofs.YtpdphobnchajbaaGreatDoor.Ev
open Go Go.RowKit
variable{P:Program}{T:Tb}
def aPn(k:K)(xs:List Value)(x:Value):Prop:=(k.agg=true→x=.agg xs.toArray)∧(k.agg=false→xs=[x])
theorem lL{t:TypeId}{ty:Ty}(F:iL P t ty)(w:World)(xs:List Value)(off:Nat)(h:off+ty.size≤xs.length)(h0:0<ty.size)
  (h1:ty.k.agg=false→ty.size=1):∃ y,(part t xs.toArray off).run P w=.ok y w∧aPn ty.k ((xs.drop off).take ty.size) y:=by
 simp only[part,Sem.run_bind,F.run_isAgg w,Result.andThen_ok]
 by_cases ha:ty.k.agg=true
 ·simp only[ha,if_true]
  exact⟨.agg ((xs.drop off).take ty.size).toArray,by simp[F.run_sizeOf w,List.extract_eq_take_drop],(fun _=>rfl),(fun h=>by rw[ha]at h;cases h)⟩
 ·simp only[Bool.not_eq_true]at ha
  have h2:=h1 ha
  have hlt:off<xs.length:=by omega
  simp only[ha,Bool.false_eq_true,if_false]
  refine⟨xs[off],by simp[hlt],(fun h=>by rw[ha]at h;cases h),(fun _=>?_)⟩
  rw[h2,List.drop_eq_getElem_cons hlt,List.take_succ_cons,List.take_zero]
theorem wN{α β:Type}(x:α)(l:List α)(b:β)(f:α→β→Sem (ForInStep β)):forIn (x::l) b f=f x b >>= fun r=>match r with|.done b=>pure b|.yield b=>forIn l b f:=by
 rw[List.forIn_cons]
 rfl
theorem RL.single{ρ:List Nat}{own:Nat→Prop}{w:World}{a:A}{ys:List Value}(h:RL ρ own w [a] ys):∃ y,ys=[y]∧R ρ own w a y:=by
 rw[RL]at h
 obtain⟨x,xs,rfl,h1,h2⟩:=h
 rw[RL]at h2
 subst h2
 exact⟨x,rfl,h1⟩
theorem RL.exact_of{ρ:List Nat}{own:Nat→Prop}{w:World}{x:Value}{ys:List Value}(h:RL ρ own w [.v x] ys):ys=[x]:=by
 obtain⟨y,rfl,h1⟩:=h.single
 rw[R]at h1
 rw[h1]
theorem GF(hT:TOk P T):∀(d:Nat) (t:TypeId) (ty:Ty) (xs ys:List A) (b:Bool),T t=some ty→eqT T d t xs ys=some b→ty.k.agg=false→xs.length=1:=by
 intro d t ty xs ys b hty h ha
 cases d with
 |zero=>simp[eqT]at h
 |succ d =>
  unfold eqT at h
  simp only[hty]at h
  cases hk:ty.k with
  |struct fs=>simp[hk,K.agg]at ha
  |array n e=>simp[hk,K.agg]at ha
  |bool=>simp only[hk]at h;split at h<;>simp_all
  |int k=>simp only[hk]at h;split at h<;>simp_all
  |str=>simp only[hk]at h;split at h<;>simp_all
  |_=>simp[hk]at h
theorem aBX(hT:TOk P T){ρ:List Nat}{own:Nat→Prop}{w:World}:∀(d D:Nat) (t:TypeId) (ty:Ty) (xs ys:List A) (us vs:List Value) (u v:Value) (b:Bool),d≤D→T t=some ty→eqT T d t xs ys=some b →
  RL ρ own w xs us→RL ρ own w ys vs→aPn ty.k us u→aPn ty.k vs v→(Op.equalIn D t u v).run P w=.ok b w:=by
 intro d
 induction d with
 |zero=>intro D t ty xs ys us vs u v b _ _ h;simp[eqT]at h
 |succ d ih =>
  intro D t ty xs ys us vs u v b hD hty h hx hy hu hv
  obtain⟨D,rfl⟩:∃ D',D=D'+1:=⟨D-1,by omega⟩
  have hD':d≤D:=by omega
  have F:=hT.facts hty
  obtain⟨tyd,hd,hkd⟩:=F.desc
  unfold eqT at h
  simp only[hty]at h
  cases hk:ty.k with
  |bool =>
   simp only[hk]at h
   split at h
   ·rename_i p q
    obtain rfl:=Option.some.inj h
    obtain rfl:=hx.exact_of
    obtain rfl:=hy.exact_of
    obtain rfl:u=.bool p:=by have:=hu.2 (by simp[hk,K.agg]);simpa using this.symm
    obtain rfl:v=.bool q:=by have:=hv.2 (by simp[hk,K.agg]);simpa using this.symm
    rw[hk]at hkd
    cases tyd<;>simp[kOf]at hkd
    unfold Op.equalIn
    simp[run_underlying hd]
   ·cases h
  |int k =>
   simp only[hk]at h
   split at h
   ·rename_i k1 p k2 q
    split at h
    ·obtain rfl:=Option.some.inj h
     obtain rfl:=hx.exact_of
     obtain rfl:=hy.exact_of
     obtain rfl:u=.int k1 p:=by have:=hu.2 (by simp[hk,K.agg]);simpa using this.symm
     obtain rfl:v=.int k2 q:=by have:=hv.2 (by simp[hk,K.agg]);simpa using this.symm
     rw[hk]at hkd
     cases tyd<;>simp[kOf]at hkd
     unfold Op.equalIn
     simp[run_underlying hd, *]
    ·cases h
   ·cases h
  |str =>
   simp only[hk]at h
   split at h
   ·rename_i p q
    obtain rfl:=Option.some.inj h
    obtain rfl:=hx.exact_of
    obtain rfl:=hy.exact_of
    obtain rfl:u=.string p:=by have:=hu.2 (by simp[hk,K.agg]);simpa using this.symm
    obtain rfl:v=.string q:=by have:=hv.2 (by simp[hk,K.agg]);simpa using this.symm
    rw[hk]at hkd
    cases tyd<;>simp[kOf]at hkd
    unfold Op.equalIn
    simp[run_underlying hd]
   ·cases h
  |struct fs =>
   simp only[hk]at h
   split at h
   ·rename_i hpl
    obtain⟨-,hst⟩:=F.plain hpl
    rw[hk]at hkd
    cases tyd with
    |struct fds =>
     simp only[kOf,K.struct.injEq]at hkd
     obtain rfl:=hu.1 (by simp[hk,K.agg])
     obtain rfl:=hv.1 (by simp[hk,K.agg])
     have key:∀(fl:List Field) (b:Bool),zZ T (eqT T d) (fl.map fun f=>(f.type,f.offset,f.name != "_")) xs ys=some b →
       (forIn (m:=Sem) fl ((none,()):Option Bool×Unit) fun(f:Field) _ =>
        if f.name≠ "_" then do
         let x ← part f.type us.toArray f.offset
         let y ← part f.type vs.toArray f.offset
         let r ← Op.equalIn D f.type x y
         if(!r)=true then pure (ForInStep.done (some false,()))else pure (ForInStep.yield (none,()))
        else pure (ForInStep.yield (none,()))).run P w=.ok (if b then(none,())else(some false,())) w:=by
      intro fl
      induction fl with
      |nil=>intro b hb;simp[zZ]at hb;subst hb;simp
      |cons f fl ihf =>
       intro b hb
       rw[wN,Sem.run_bind]
       simp only[List.map_cons]at hb
       unfold zZ at hb
       cases hft:T f.type with
       |none=>simp[hft]at hb
       |some fty =>
        simp only[hft]at hb
        by_cases hn:f.name= "_"
        ·simp only[hn,bne_self_eq_false,Bool.false_eq_true,if_false]at hb
         rw[if_neg (by simp[hn])]
         simp only[Sem.run_pure,Result.andThen_ok]
         exact ihf b hb
        ·have hn':(f.name != "_")=true:=by simpa using hn
         simp only[hn',if_true]at hb
         split at hb
         ·rename_i hsz
          cases h1:eqT T d f.type ((xs.drop f.offset).take fty.size) ((ys.drop f.offset).take fty.size)with
          |none=>simp[h1]at hb
          |some b1 =>
           cases h2:zZ T (eqT T d) (fl.map fun f=>(f.type,f.offset,f.name != "_")) xs ys with
           |none=>simp[h1,h2]at hb
           |some b2 =>
            simp only[h1,h2,Option.some.injEq]at hb
            subst hb
            have F1:=hT.facts hft
            have hs1:fty.k.agg=false→fty.size=1:=fun ha=>by
             have:=GF hT d f.type fty _ _ b1 hft h1 ha
             simp at this
             omega
            obtain⟨p,hp,hpm⟩:=lL F1 w us f.offset (by rw[hx.length];exact hsz.1) hsz.2.2 hs1
            obtain⟨q,hq,hqm⟩:=lL F1 w vs f.offset (by rw[hy.length];exact hsz.2.1) hsz.2.2 hs1
            have h3:=ih D f.type fty _ _ _ _ p q b1 hD' hft h1 ((hx.drop _).take _) ((hy.drop _).take _) hpm hqm
            rw[if_pos hn]
            simp only[Sem.run_bind,hp,hq,h3,Result.andThen_ok]
            cases b1
            ·simp
            ·simp only[Bool.not_true,Bool.false_eq_true,if_false,Sem.run_pure,Result.andThen_ok,Bool.true_and]
             exact ihf b2 h2
         ·cases hb
     have:=key fds.toList b (by rw[hkd];exact h)
     unfold Op.equalIn
     simp only[Sem.run_bind,run_underlying hd,Result.andThen_ok,run_program,hst,Bool.false_eq_true,if_false]
     rw[← Array.forIn_toList]
     rw[this]
     cases b<;>simp
    |_=>simp[kOf]at hkd
   ·cases h
  |array n e =>
   simp only[hk]at h
   cases hte:T e with
   |none=>simp[hte]at h
   |some te =>
    simp only[hte]at h
    rw[hk]at hkd
    cases tyd with
    |array n' e' =>
     simp only[kOf,K.array.injEq]at hkd
     obtain⟨rfl,rfl⟩:=hkd
     obtain rfl:=hu.1 (by simp[hk,K.agg])
     obtain rfl:=hv.1 (by simp[hk,K.agg])
     have Fe:=hT.facts hte
     have key:∀(m i:Nat) (b:Bool),eqN (eqT T d) e' te.size m i xs ys=some b →
       (forIn (m:=Sem) (List.range' i m) ((none,()):Option Bool×Unit) fun(i:Nat) _=>do
         let x ← part e' us.toArray (i*te.size)
         let y ← part e' vs.toArray (i*te.size)
         let r ← Op.equalIn D e' x y
         if(!r)=true then pure (ForInStep.done (some false,()))else pure (ForInStep.yield (none,()))).run P w=.ok (if b then(none,())else(some false,())) w:=by
      intro m
      induction m with
      |zero=>intro i b hb;simp[eqN]at hb;subst hb;simp
      |succ m ihm =>
       intro i b hb
       rw[List.range'_succ,wN,Sem.run_bind]
       unfold eqN at hb
       split at hb
       ·rename_i hsz
        cases h1:eqT T d e' ((xs.drop (i*te.size)).take te.size) ((ys.drop (i*te.size)).take te.size)with
        |none=>simp[h1]at hb
        |some b1 =>
         cases h2:eqN (eqT T d) e' te.size m (i+1) xs ys with
         |none=>simp[h1,h2]at hb
         |some b2 =>
          simp only[h1,h2,Option.some.injEq]at hb
          subst hb
          have hs1:te.k.agg=false→te.size=1:=fun ha=>by
           have:=GF hT d e' te _ _ b1 hte h1 ha
           simp at this
           omega
          obtain⟨p,hp,hpm⟩:=lL Fe w us (i*te.size) (by rw[hx.length];exact hsz.1) hsz.2.2 hs1
          obtain⟨q,hq,hqm⟩:=lL Fe w vs (i*te.size) (by rw[hy.length];exact hsz.2.1) hsz.2.2 hs1
          have h3:=ih D e' te _ _ _ _ p q b1 hD' hte h1 ((hx.drop _).take _) ((hy.drop _).take _) hpm hqm
          simp only[Sem.run_bind,hp,hq,h3,Result.andThen_ok]
          cases b1
          ·simp
          ·simp only[Bool.not_true,Bool.false_eq_true,if_false,Sem.run_pure,Result.andThen_ok,Bool.true_and]
           exact ihm (i+1) b2 h2
       ·cases hb
     have:=key n' 0 b h
     unfold Op.equalIn
     simp only[Sem.run_bind,run_underlying hd,Result.andThen_ok,Fe.run_sizeOf w]
     rw[Std.Legacy.Range.forIn_eq_forIn_range']
     simp only[Std.Legacy.Range.size,Nat.sub_zero,Nat.add_sub_cancel,Nat.div_one]
     rw[this]
     cases b<;>simp
    |_=>simp[kOf]at hkd
  |_=>simp[hk]at h
end Go.Proofs.YtpdphobnchajbaaGreatDoor.Ev
namespace Go.Proofs.YtpdphobnchajbaaGreatDoor.Ev
open Go Go.RowKit
variable{P:Program}{T:Tb}
theorem mB(op:BinOp)(t:TypeId)(x y:Operand)(a b:Value)(w:World)(h1:∀ p q,a=.agg p→b=.agg q→P.eqGuardType P.depth t=false)(h2:a=.nilIface→b=.nilIface→False) :
  (eqGuard op t x y a b).run P w=.ok () w:=by
 unfold eqGuard
 cases op<;>first
  |(simp;done)
  |(cases a<;>first
    |(simp;done)
    |(cases b<;>first
      |(simp;done)
      |(exact(h2 rfl rfl).elim)
      |(rename_i p q;simp[h1 p q rfl rfl])))
theorem aGL{op:BinOp}{x y r:Value}(t:TypeId)(w:World)(h:xE op x y=some r):(binOp op t x y).run P w=.ok r w:=by
 unfold xE at h
 split at h
 ·rename_i k a k' b
  cases op with
  |shl =>
   simp only at h
   split at h
   ·cases h
   ·rename_i hb
    obtain rfl:=Option.some.inj h
    simp[binOp,Op.shift,hb]
  |shr =>
   simp only at h
   split at h
   ·cases h
   ·rename_i hb
    obtain rfl:=Option.some.inj h
    simp[binOp,Op.shift,hb]
  |quo =>
   simp only at h
   split at h
   ·rename_i hk
    split at h
    ·cases h
    ·rename_i hb
     obtain rfl:=Option.some.inj h
     simp[binOp,hk,Op.intDiv,hb]
   ·cases h
  |rem =>
   simp only at h
   split at h
   ·rename_i hk
    split at h
    ·cases h
    ·rename_i hb
     obtain rfl:=Option.some.inj h
     simp[binOp,hk,Op.intDiv,hb]
   ·cases h
  |_ =>
   simp only at h
   split at h
   ·rename_i hk
    subst hk
    obtain rfl:=Option.some.inj h
    simp[binOp,Op.intArith,Op.intBits,Op.intCmp]
   ·cases h
 ·rename_i a b
  cases op with
  |add =>
   simp only at h
   split at h
   ·cases h
   ·rename_i hb
    obtain rfl:=Option.some.inj h
    simp only[binOp,Op.stringOp,if_neg hb,Sem.run_pure]
  |_ =>
   simp only at h
   first
    |(obtain rfl:=Option.some.inj h;simp[binOp,Op.stringOp])
    |cases h
 ·cases h
theorem aEM{op:BinOp}{x y r:Value}(h:xE op x y=some r):(∀ p q,x=.agg p→y=.agg q→False)∧(x=.nilIface→y=.nilIface→False):=by
 unfold xE at h
 split at h
 ·exact⟨(fun p q h=>by cases h),(fun h=>by cases h)⟩
 ·exact⟨(fun p q h=>by cases h),(fun h=>by cases h)⟩
 ·cases h
theorem SP(t:TypeId){x y:Value}{b:Bool}{w:World}(h:(Op.equal t x y).run P w=.ok b w)
  (h1:∀ k a k' b,x=.int k a→y=.int k' b→False) (h2:∀ k a k' b,x=.float k a→y=.float k' b→False) (h3:∀ k a a' k' b b',x=.complex k a a'→y=.complex k' b b'→False) (h4:∀ a b,x=.string a→y=.string b→False) :
  (binOp .eql t x y).run P w=.ok (.bool b) w∧(binOp .neq t x y).run P w=.ok (.bool !b) w:=by
 constructor <;>
 ·unfold binOp
  split<;>first
   |(exfalso;rename_i hop _;cases hop;done)
   |(exfalso;exact h1 _ _ _ _ rfl rfl)
   |(exfalso;exact h2 _ _ _ _ rfl rfl)
   |(exfalso;exact h3 _ _ _ _ _ _ rfl rfl)
   |(exfalso;exact h4 _ _ rfl rfl)
   |(simp[h];done)
   |simp_all
end Go.Proofs.YtpdphobnchajbaaGreatDoor.Ev
namespace Go.Proofs.YtpdphobnchajbaaGreatDoor.Ev
open Go Go.RowKit
variable{P:Program}{T:Tb}
theorem gW{t:TypeId}{x y:Value}{r:Bool}{w:World}(h:∀ d,(Op.equalIn (d+1) t x y).run P w=.ok r w):(Op.equal t x y).run P w=.ok r w:=h 9999
theorem aDG {ρ : List Nat} {own : Nat → Prop} {w : World} {t : TypeId} {d : TypeDesc} (hd : P.underlying t = some d) {a b : A} {x y : Value} {r : Bool}
    (h : nO (kOf d) a b = some r) (ha : R ρ own w a x) (hb : R ρ own w b y) :
    (Op.equal t x y).run P w = .ok r w ∧ (∀ k a k' b, x = .int k a → y = .int k' b → False) ∧ (∀ k a k' b, x = .float k a → y = .float k' b → False) ∧ (∀ k a a' k' b b', x = .complex k a a' → y = .complex k' b b' → False) ∧ (∀ a b, x = .string a → y = .string b → False) ∧
      (∀ p q, x = .agg p → y = .agg q → False) ∧ (x = .nilIface → y = .nilIface → False) := by
  cases d <;> simp only [kOf, nO] at h <;> try (cases h; done)
  all_goals
    split at h <;> first
      | (cases h; done)
      | (simp only [R] at ha hb
         obtain rfl := Option.some.inj h
         first
           | (obtain ⟨g, cap, cur, e, fz, -, rfl, -⟩ := ha; obtain rfl := hb; refine ⟨gW (fun d => by unfold Op.equalIn; simp [run_underlying hd]), ?_⟩; simp; done)
           | (obtain ⟨g, cap, cur, e, fz, -, rfl, -⟩ := hb; obtain rfl := ha; refine ⟨gW (fun d => by unfold Op.equalIn; simp [run_underlying hd]), ?_⟩; simp; done)
           | (rcases ha with ⟨ha, -⟩ | ⟨g, off, cap, xs, rfl, -⟩
              · simp at ha
              · obtain rfl := hb; refine ⟨gW (fun d => by unfold Op.equalIn; simp [run_underlying hd]), ?_⟩; simp; done)
           | (rcases hb with ⟨hb, -⟩ | ⟨g, off, cap, xs, rfl, -⟩
              · simp at hb
              · obtain rfl := ha; refine ⟨gW (fun d => by unfold Op.equalIn; simp [run_underlying hd]), ?_⟩; simp; done)
           | (obtain ⟨g, -, rfl⟩ := ha; obtain rfl := hb; refine ⟨gW (fun d => by unfold Op.equalIn; simp [run_underlying hd]), ?_⟩; simp; done)
           | (obtain ⟨g, -, rfl⟩ := hb; obtain rfl := ha; refine ⟨gW (fun d => by unfold Op.equalIn; simp [run_underlying hd]), ?_⟩; simp; done)
           | (obtain ⟨g, off, xs, rfl, -⟩ := ha; obtain rfl := hb; refine ⟨gW (fun d => by unfold Op.equalIn; simp [run_underlying hd]), ?_⟩; simp; done)
           | (obtain ⟨g, off, xs, rfl, -⟩ := hb; obtain rfl := ha; refine ⟨gW (fun d => by unfold Op.equalIn; simp [run_underlying hd]), ?_⟩; simp; done)
           | (obtain ⟨xs, ys, rfl, -⟩ := ha; obtain rfl := hb; refine ⟨gW (fun d => by unfold Op.equalIn; simp [run_underlying hd]), ?_⟩; simp; done)
           | (obtain ⟨xs, ys, rfl, -⟩ := hb; obtain rfl := ha; refine ⟨gW (fun d => by unfold Op.equalIn; simp [run_underlying hd]), ?_⟩; simp; done)
           | (obtain rfl := ha; obtain rfl := hb; refine ⟨gW (fun d => by unfold Op.equalIn; simp [run_underlying hd]), ?_⟩; simp; done))
end Go.Proofs.YtpdphobnchajbaaGreatDoor.Ev
namespace Go.Proofs.YtpdphobnchajbaaGreatDoor.Ev
open Go Go.RowKit
variable{P:Program}{T:Tb}
theorem LK(hT:TOk P T){ρ:List Nat}{own:Nat→Prop}{w:World}{t:TypeId}{ty:Ty}(hty:T t=some ty){a b:A}{x y:Value}{r:Bool}
  (h:pC T t ty a b=some r) (ha:R ρ own w a x) (hb:R ρ own w b y) :
  (Op.equal t x y).run P w=.ok r w∧(∀ k a k' b,x=.int k a→y=.int k' b→False)∧(∀ k a k' b,x=.float k a→y=.float k' b→False)∧(∀ k a a' k' b b',x=.complex k a a'→y=.complex k' b b'→False)∧(∀ a b,x=.string a→y=.string b→False) ∧
   (∀ p q,x=.agg p→y=.agg q→P.eqGuardType P.depth t=false)∧(x=.nilIface→y=.nilIface→False):=by
 have F:=hT.facts hty
 obtain⟨d,hd,hkd⟩:=F.desc
 unfold pC at h
 cases hn:nO ty.k a b with
 |some r' =>
  simp only[hn,Option.some.injEq]at h
  subst h
  rw[← hkd]at hn
  obtain⟨h1,h2,h3,h4,h5,h6,h7⟩:=aDG hd hn ha hb
  exact⟨h1,h2,h3,h4,h5,fun p q e1 e2=>(h6 p q e1 e2).elim,h7⟩
 |none =>
  simp only[hn]at h
  split at h
  ·rename_i xs ys
   split at h
   ·rename_i hc
    simp only[Bool.and_eq_true]at hc
    simp only[R]at ha hb
    obtain⟨us,rfl,hus⟩:=ha
    obtain⟨vs,rfl,hvs⟩:=hb
    have:=aBX hT 20 Op.maxDepth t ty xs ys us vs (.agg us.toArray) (.agg vs.toArray) r (by decide) hty h hus hvs ⟨(fun _=>rfl),(fun h=>by rw[hc.1]at h;cases h)⟩ ⟨(fun _=>rfl),(fun h=>by rw[hc.1]at h;cases h)⟩
    refine⟨this,?_⟩
    simp[(F.plain hc.2).1]
   ·cases h
  ·rename_i p q
   split at h
   ·rename_i hk
    obtain rfl:=Option.some.inj h
    simp only[R]at ha hb
    subst ha hb
    rw[hk]at hkd
    cases d<;>simp[kOf]at hkd
    refine⟨gW (fun d=>by unfold Op.equalIn;simp[run_underlying hd]),?_⟩
    simp
   ·cases h
  ·cases h
theorem aMK(hT:TOk P T){ρ:List Nat}{own:Nat→Prop}{w:World}{t:TypeId}{op:BinOp}{a b z:A}{x y:Value}(xo yo:Operand)
  (h:H5 T op t a b=some z) (ha:R ρ own w a x) (hb:R ρ own w b y):∃ u,(do eqGuard op t xo yo x y;binOp op t x y:Sem Value).run P w=.ok u w∧R ρ own w z u:=by
 unfold H5 at h
 cases hty:T t with
 |none=>simp[hty]at h
 |some ty =>
  simp only[hty]at h
  split at h
  ·rename_i r hs
   obtain rfl:=Option.some.inj h
   obtain⟨h1,h2,h3,h4,h5,h6,h7⟩:=LK hT hty hs ha hb
   refine⟨.bool r,?_,by rw[R]⟩
   rw[Sem.run_bind,mB _ _ _ _ _ _ _ h6 h7]
   exact(SP t h1 h2 h3 h4 h5).1
  ·rename_i r hs
   obtain rfl:=Option.some.inj h
   obtain⟨h1,h2,h3,h4,h5,h6,h7⟩:=LK hT hty hs ha hb
   refine⟨.bool !r,?_,by rw[R]⟩
   rw[Sem.run_bind,mB _ _ _ _ _ _ _ h6 h7]
   exact(SP t h1 h2 h3 h4 h5).2
  ·cases h
section
variable{c:Cfg}{e:Env}{a:Act}{o:Oper}{x:A}
def bV(P:Program)(c:Cfg)(a:Act)(o:Oper)(x:A):Prop:=∃ y,(execOp a.eval o).run P c.w=.ok (.value y) c.w∧R c.ρ c.own c.w x y
theorem bV.mk{s:Sem Value}{y:Value}(hx:execOp a.eval o=(do pure (.value (← s)):Sem Next))(h:s.run P c.w=.ok y c.w)(hr:R c.ρ c.own c.w x y):bV P c a o x:=⟨y,by rw[hx];simp[h],hr⟩
theorem aAc(hT:TOk P T)(he:cF c e a){op:BinOp}{t t':TypeId}{p q:Operand}(ho:o.op=.binOp op t p q t')(h:aN T e c.H (.binOp op t p q t')=some x):bV P c a o x:=by
 simp only[aN]at h
 have hx:execOp a.eval o=(do pure (.value (← (do eqGuard op t p q (a.eval p) (a.eval q);binOp op t (a.eval p) (a.eval q):Sem Value))):Sem Next):=by simp only[execOp,ho]
 cases hp:opnd e p with
 |none=>simp[hp]at h
 |some u =>
  cases hq:opnd e q with
  |none=>simp[hp,hq]at h
  |some v =>
   have hu:=he.opnd hp
   have hv:=he.opnd hq
   simp only[hp,hq]at h
   have viaEq:∀ z,H5 T op t u v=some z→bV P c a o z:=fun z hz=>by
    obtain⟨y,h1,h2⟩:=aMK hT p q hz hu hv
    exact bV.mk hx h1 h2
   split at h
   ·rename_i m n h1 h2
    obtain rfl:=Option.some.inj h1
    obtain rfl:=Option.some.inj h2
    cases hb:xE op m n with
    |some r =>
     simp only[hb,Option.some.injEq]at h
     subst h
     simp only[R]at hu hv
     obtain⟨n1,n2⟩:=aEM hb
     refine bV.mk (y:=r) hx ?_ (by rw[R])
     rw[hu,hv,Sem.run_bind,mB _ _ _ _ _ _ _ (fun p q h1 h2=>(n1 p q h1 h2).elim) n2]
     exact aGL t c.w hb
    |none =>
     simp only[hb]at h
     exact viaEq x h
   ·rename_i m n _ h1 h2
    obtain rfl:=Option.some.inj h1
    obtain rfl:=Option.some.inj h2
    exact viaEq x h
   ·cases h
theorem aLl (he : cF c e a) {op : UnOp} {t : TypeId} {p : Operand} (ho : o.op = .unOp op t p) (h : aN T e c.H (.unOp op t p) = some x) : bV P c a o x := by
  simp only [aN] at h
  have hx : execOp a.eval o = (do pure (.value (← Op.unary op (a.eval p))) : Sem Next) := by simp only [execOp, ho]
  split at h
  all_goals first
    | (cases h; done)
    | (rename_i hp
       obtain rfl := Option.some.inj h
       have hu := he.opnd hp
       simp only [R] at hu
       refine bV.mk hx (y := _) ?_ (by rw [R])
       rw [hu]
       simp [Op.unary, Op.intArith, Op.intBits])
theorem rP{ρ:List Nat}{own:Nat→Prop}{w:World}:∀{cs:List A} {ys:List Value} {l:List UInt8},RL ρ own w cs ys→bytesOf cs=some l→ys=Lib.byteCells l
 |[],ys,l,h,hb=>by
  rw[RL]at h
  subst h
  simp only[bytesOf,Option.some.injEq]at hb
  subst hb
  rfl
 |c::cs,ys,l,h,hb=>by
  rw[RL]at h
  obtain⟨y,xs,rfl,h1,h2⟩:=h
  unfold bytesOf at hb
  split at hb
  ·rename_i heq
   cases heq
  ·rename_i x l0 heq
   injection heq with e1 e2
   subst e1
   subst e2
   split at hb
   ·rename_i hx
    rw[Option.map_eq_some_iff]at hb
    obtain⟨r,hr,rfl⟩:=hb
    rw[R]at h1
    subst h1
    rw[rP h2 hr]
    have:(UInt8.ofNat x.toNat).toNat=x.toNat:=by
     rw[UInt8.toNat_ofNat']
     have:x.toNat<256:=by omega
     omega
    simp only[Lib.byteCells,List.map_cons,this]
    congr 2
    omega
   ·cases hb
  ·cases hb
theorem NC(hT:TOk P T)(ok:Ok T.gl c)(he:cF c e a){t t':TypeId}{p:Operand}(ho:o.op=.convert t t' p)(h:aN T e c.H (.convert t t' p)=some x):bV P c a o x:=by
 simp only[aN]at h
 have hx:execOp a.eval o=(do pure (.value (← convert t t' (a.eval p))):Sem Next):=by simp only[execOp,ho]
 split at h
 ·rename_i hs hd hp
  have hu:=he.opnd hp
  simp only[R]at hu
  obtain⟨d1,h1,-⟩:=(hT.facts hs).desc
  obtain⟨d2,h2,k2⟩:=(hT.facts hd).desc
  split at h
  ·rename_i k hk
   obtain rfl:=Option.some.inj h
   rw[hk]at k2
   cases d2<;>simp[kOf]at k2
   subst k2
   refine bV.mk hx (y:=_) ?_ (by rw[R])
   rw[hu]
   simp[convert,run_underlying h1,run_underlying h2,Conv.intToInt]
  ·cases h
 ·rename_i hs hd hp
  have hu:=he.opnd hp
  simp only[R]at hu
  obtain⟨d1,h1,-⟩:=(hT.facts hs).desc
  obtain⟨d2,h2,k2⟩:=(hT.facts hd).desc
  split at h
  ·rename_i hk
   obtain rfl:=Option.some.inj h
   rw[hk]at k2
   cases d2<;>simp[kOf]at k2
   refine bV.mk hx (y:=_) ?_ (by rw[R])
   rw[hu]
   simp[convert,run_underlying h1,run_underlying h2]
  ·cases h
 ·rename_i sty ty b off len sz hs hd hp
  cases hq:Nat.beq t' 9 with
  |false =>
   rw[hq]at h
   cases h
  |true =>
   rw[hq,cond_true]at h
   have hr:=he.opnd hp
   rw[R]at hr
   obtain⟨g,cap,cur0,e0,fz0,hg,hy,hlc,hcm,hcur0,hroom⟩:=hr
   obtain⟨d1,h1,k1⟩:=(hT.facts hs).desc
   obtain⟨d2,h2,k2⟩:=(hT.facts hd).desc
   unfold BN at h
   split at h
   ·rename_i el blk hk1 hk2 hb
    split at h
    ·rename_i te l hte hl
     split at h
     ·rename_i hku
      split at h
      ·rename_i hc
       obtain⟨hsz,hln⟩:=hc
       obtain rfl:=Option.some.inj h
       rw[hk1]at k1
       rw[hk2]at k2
       obtain⟨d3,h3,k3⟩:=(hT.facts hte).desc
       rw[hku]at k3
       cases d1<;>simp[kOf]at k1
       subst k1
       cases d2<;>simp[kOf]at k2
       cases d3<;>simp[kOf]at k3
       subst k3
       obtain⟨cur,xs,hcur,hxs,hlie,hpre,-⟩:=ok.lies hb hg ⟨cur0,e0,fz0,hcur0⟩
       have hb1:=rP ((hxs.drop off).take len) hl
       refine bV.mk hx (y:=.string ⟨l.toArray⟩) ?_ (by rw[R])
       rw[hy]
       have hrun:=run_convert_bytes_arg (P:=P) c.w t _ h1 h3 g off len cap (l.map fun b=>(b.toNat:Int)) (by simp[hln]) (fun i hi=>by
        refine hlie (off+i) _ ?_ |> fun hh=>(by rw[Nat.zero_add]at hh;exact hh)
        have h9:((xs.drop off).take len)[i]?=some (.int .u8 (l[i]'(by omega)).toNat):=by
         rw[hb1]
         simp only[Lib.byteCells,List.getElem?_map,List.getElem?_eq_getElem (show i<l.length by omega),Option.map_some]
        rw[List.getElem?_take,if_pos hi,List.getElem?_drop]at h9
        rw[h9]
        simp[List.getD,List.getElem?_eq_getElem (show i<l.length by omega)]) t' h2
       have he8:strOfNums (l.map fun b=>(b.toNat:Int))=⟨l.toArray⟩:=by
        unfold strOfNums
        congr 1
        simp[Function.comp_def]
       rw[he8]at hrun
       simp only[hrun]
      ·cases h
     ·cases h
    ·cases h
   ·cases h
 ·cases h
theorem aGg(hT:TOk P T)(ok:Ok T.gl c)(he:cF c e a){t:TypeId}{p:Operand}(ho:o.op=.load t p)(h:aN T e c.H (.load t p)=some x):bV P c a o x:=by
 simp only[aN]at h
 have hx:execOp a.eval o=(do pure (.value (← Instr.loadAt t (a.eval p))):Sem Next):=by simp only[execOp,ho]
 cases hp:opnd e p with
 |none=>simp[hp]at h
 |some u =>
  cases hr:lC T.gl.tab c.H u with
  |none=>simp[hp,hr]at h
  |some cs =>
   cases hty:T t with
   |none=>simp[hp,hr,hty]at h
   |some ty =>
    simp only[hp,hr,hty,Option.bind_some]at h
    obtain⟨g,off,xs,h1,h2,h3⟩:=KE ok hr (he.opnd hp)
    obtain⟨y,h4,h5⟩:=wC (hT.facts hty) h h2 h3
    refine bV.mk hx (y:=y) ?_ h5
    rw[h1]
    simpa[Instr.loadAt,Instr.sureAddr]using h4
theorem IO (he : cF c e a) {p : Operand} (ho : o.op = .nilCheck p) (h : aN T e c.H (.nilCheck p) = some x) : bV P c a o x := by
  simp only [aN] at h
  split at h
  all_goals first
    | (cases h; done)
    | (rename_i hp
       obtain rfl := Option.some.inj h
       have hu := he.opnd hp
       refine ⟨a.eval p, ?_, hu⟩
       simp only [R] at hu
       first
         | (obtain ⟨g, -, hu⟩ := hu; simp [execOp, ho, hu]; done)
         | (obtain ⟨g, off, xs, hu, -⟩ := hu; simp [execOp, ho, hu]; done)
         | (obtain ⟨xs, ys, hu, -⟩ := hu; simp [execOp, ho, hu]; done)
         | (simp [execOp, ho, hu]; done))
theorem aI7(he:cF c e a){p q r:Operand}(ho:o.op=.pick p q r)(h:aN T e c.H (.pick p q r)=some x):bV P c a o x:=by
 simp only[aN]at h
 split at h
 ·rename_i t u v hp hq hr
  obtain rfl:=Option.some.inj h
  have h1:=he.opnd hp
  simp only[R]at h1
  refine⟨if t then a.eval q else a.eval r,by simp[execOp,ho,h1,asBool],?_⟩
  cases t
  ·exact he.opnd hr
  ·exact he.opnd hq
 ·rename_i u hp hq hr
  obtain rfl:=Option.some.inj h
  have h1:=he.opnd hp
  simp only[R]at h1
  exact⟨a.eval q,by simp[execOp,ho,h1,asBool],he.opnd hq⟩
 ·rename_i u hp hq hr
  obtain rfl:=Option.some.inj h
  have h1:=he.opnd hp
  simp only[R]at h1
  exact⟨a.eval r,by simp[execOp,ho,h1,asBool],he.opnd hr⟩
 ·cases h
theorem PQ(he:cF c e a){p:Operand}{i:Nat}(ho:o.op=.extract p i)(h:aN T e c.H (.extract p i)=some x):bV P c a o x:=by
 simp only[aN]at h
 have hx:execOp a.eval o=(do pure (.value (← Instr.extract (a.eval p) i)):Sem Next):=by simp only[execOp,ho]
 split at h
 ·rename_i cs hp
  have h1:=he.opnd hp
  simp only[R]at h1
  obtain⟨xs,h1,h2⟩:=h1
  obtain⟨y,hy,hr⟩:=h2.get i x h
  refine bV.mk hx (y:=y) ?_ hr
  rw[h1]
  simp[Instr.extract,hy]
 ·rename_i xs hp
  have h1:=he.opnd hp
  simp only[R]at h1
  cases hi:xs[i]? with
  |none=>simp[hi]at h
  |some y =>
   simp only[hi,Option.map_some,Option.some.injEq]at h
   subst h
   refine bV.mk hx (y:=y) ?_ (aE2 y)
   rw[h1]
   simp[Instr.extract,hi]
 ·cases h
theorem IJ(he:cF c e a){fn:Fn}{p q:Array Operand}(ho:o.op=.makeFunc fn p q)(h:aN T e c.H (.makeFunc fn p q)=some x):bV P c a o x:=by
 simp only[aN]at h
 have hx:execOp a.eval o=(do pure (.value (← Instr.makeFunc fn (p.map a.eval) (q.map a.eval))):Sem Next):=by simp only[execOp,ho]
 split at h
 ·rename_i f xs ys h1 h2
  obtain rfl:=Option.some.inj h
  refine bV.mk hx (y:=_) rfl ?_
  rw[R]
  exact⟨p.toList.map a.eval,q.toList.map a.eval,by simp[← Array.toList_map],he.opnds h1,he.opnds h2⟩
 ·cases h
end
end Go.Proofs.YtpdphobnchajbaaGreatDoor.Ev
namespace Go.Proofs.YtpdphobnchajbaaGreatDoor.Ev
open Go Go.RowKit
variable{P:Program}{T:Tb}
theorem sB{d:TypeDesc}{fs:List (TypeId×Nat×Bool)}(h:kOf d=.struct fs):∃ fds:Array Field,d=.struct fds∧fds.toList.map (fun f=>(f.type,f.offset,f.name != "_"))=fs:=by
 cases d with
 |struct fds=>simp only[kOf,K.struct.injEq]at h;exact⟨fds,rfl,h⟩
 |_=>simp[kOf]at h
theorem jH{d:TypeDesc}{e:TypeId}(h:kOf d=.slice e):d=.slice e:=by
 cases d<;>simp[kOf]at h
 rw[h]
theorem kR{d:TypeDesc}{n:Nat}{e:TypeId}(h:kOf d=.array n e):d=.array n e:=by
 cases d<;>simp[kOf]at h
 rw[h.1,h.2]
theorem tJ{d:TypeDesc}(h:kOf d=.str):d=.string:=by
 cases d<;>simp[kOf]at h
 rfl
section
variable{c:Cfg}{e:Env}{a:Act}{o:Oper}{x:A}
theorem K6{fds:Array Field}{fs:List (TypeId×Nat×Bool)}(hf:fds.toList.map (fun f=>(f.type,f.offset,f.name != "_"))=fs){i:Nat}{t:TypeId}{off:Nat}{b:Bool}(h:fs[i]?=some (t,off,b)) :
  ∃ f,fds[i]?=some f∧f.type=t∧f.offset=off:=by
 subst hf
 rw[List.getElem?_map]at h
 cases hh:fds.toList[i]? with
 |none=>simp[hh]at h
 |some f =>
  simp only[hh,Option.map_some,Option.some.injEq,Prod.mk.injEq]at h
  exact⟨f,by simpa using hh,h.1,h.2.1⟩
theorem FC(hT:TOk P T)(he:cF c e a){t:TypeId}{p:Operand}{i:Nat}(ho:o.op=.fieldAddr t p i)(h:aN T e c.H (.fieldAddr t p i)=some x):bV P c a o x:=by
 simp only[aN]at h
 have hx:execOp a.eval o=(do pure (.value (← Instr.fieldAt t (a.eval p) i)):Sem Next):=by simp only[execOp,ho]
 split at h
 ·rename_i ty u hty hp
  split at h
  ·rename_i fs hk
   split at h
   ·rename_i ft off b hf
    split at h
    ·rename_i fty hft
     split at h
     ·rename_i hsz
      obtain⟨d,hd,hkd⟩:=(hT.facts hty).desc
      rw[hk]at hkd
      obtain⟨fds,rfl,hfs⟩:=sB hkd
      obtain⟨f,hf1,hf2,hf3⟩:=K6 hfs hf
      have hs:=(hT.facts hft).run_sizeOf c.w
      rw[← hf2]at hs
      have hn:¬ fty.size=0:=by omega
      have hu:=he.opnd hp
      split at h
      ·rename_i b0 o0
       obtain rfl:=Option.some.inj h
       simp only[R]at hu
       obtain⟨g,hg,hu,hsh⟩:=hu
       refine bV.mk hx (y:=.pointer (some ⟨g,o0+off,none⟩)) ?_ (by rw[R];exact⟨g,hg,rfl,hsh⟩)
       rw[hu]
       simp[Instr.fieldAt,run_underlying hd,hf1,Instr.sureAddr,fieldPlace,hs,hn,hf3,Addr.add_lit]
      ·rename_i cs
       obtain rfl:=Option.some.inj h
       simp only[R]at hu
       obtain⟨g,o1,xs,hu,h2,h3,h4,h5⟩:=hu
       refine bV.mk hx (y:=.pointer (some ⟨g,o1+off,none⟩)) ?_ (by rw[R];exact⟨g,o1+off,xs.drop off,rfl,h2,h3,h4.drop _,h5.drop _⟩)
       rw[hu]
       simp[Instr.fieldAt,run_underlying hd,hf1,Instr.sureAddr,fieldPlace,hs,hn,hf3,Addr.add_lit]
      ·cases h
     ·cases h
    ·cases h
   ·cases h
  ·cases h
 ·cases h
theorem aCD(hT:TOk P T)(he:cF c e a){t:TypeId}{p:Operand}{i:Nat}(ho:o.op=.field t p i)(h:aN T e c.H (.field t p i)=some x):bV P c a o x:=by
 simp only[aN]at h
 have hx:execOp a.eval o=(do pure (.value (← Instr.field t (a.eval p) i)):Sem Next):=by simp only[execOp,ho]
 split at h
 ·rename_i ty cs hty hp
  split at h
  ·rename_i fs hk
   split at h
   ·rename_i ft off b hf
    split at h
    ·rename_i fty hft
     obtain⟨d,hd,hkd⟩:=(hT.facts hty).desc
     rw[hk]at hkd
     obtain⟨fds,rfl,hfs⟩:=sB hkd
     obtain⟨f,hf1,hf2,hf3⟩:=K6 hfs hf
     have hu:=he.opnd hp
     simp only[R]at hu
     obtain⟨xs,hu,h2⟩:=hu
     obtain⟨y,h3,h4⟩:=AZ (hT.facts hft) h h2
     refine bV.mk hx (y:=y) ?_ h4
     rw[hu]
     simp[Instr.field,run_underlying hd,hf1,asAgg,hf2,hf3,h3]
    ·cases h
   ·cases h
  ·cases h
 ·cases h
theorem aDc(hT:TOk P T)(he:cF c e a){t:TypeId}{p q:Operand}(ho:o.op=.index t p q)(h:aN T e c.H (.index t p q)=some x):bV P c a o x:=by
 simp only[aN]at h
 have hx:execOp a.eval o=(do pure (.value (← Instr.index t (a.eval p) (a.eval q))):Sem Next):=by simp only[execOp,ho]
 split at h
 ·rename_i ty u k n hty hp hq
  obtain⟨d,hd,hkd⟩:=(hT.facts hty).desc
  have hu:=he.opnd hp
  have hv:=he.opnd hq
  simp only[R]at hv
  split at h
  ·rename_i len el hk
   rw[hk]at hkd
   obtain rfl:=kR hkd
   split at h
   ·rename_i te cs hte
    split at h
    ·rename_i hb
     simp only[R]at hu
     obtain⟨xs,hu,h2⟩:=hu
     obtain⟨y,h3,h4⟩:=AZ (hT.facts hte) h h2
     refine bV.mk hx (y:=y) ?_ h4
     rw[hu,hv]
     simp[Instr.index,asIntOf,run_underlying hd,hb,(hT.facts hte).run_sizeOf,h3]
    ·cases h
   ·cases h
  ·rename_i hk
   rw[hk]at hkd
   obtain rfl:=tJ hkd
   split at h
   ·rename_i s
    split at h
    ·rename_i hb
     simp only[R]at hu
     cases hs:s[n.toNat]? with
     |none=>simp[hs]at h
     |some b =>
      simp only[hs,Option.map_some,Option.some.injEq]at h
      subst h
      refine bV.mk hx (y:=.int .u8 b.toNat) ?_ (by rw[R])
      rw[hu,hv]
      simp[Instr.index,asIntOf,run_underlying hd,hb,hs]
    ·cases h
   ·cases h
  ·cases h
 ·cases h
theorem ER(hT:TOk P T)(he:cF c e a){t:TypeId}{p q:Operand}(ho:o.op=.indexAddr t p q)(h:aN T e c.H (.indexAddr t p q)=some x):bV P c a o x:=by
 simp only[aN]at h
 have hx:execOp a.eval o=(do pure (.value (← Instr.indexAt t (a.eval p) (a.eval q))):Sem Next):=by simp only[execOp,ho]
 split at h
 ·rename_i ty u k n hty hp hq
  obtain⟨d,hd,hkd⟩:=(hT.facts hty).desc
  have hu:=he.opnd hp
  have hv:=he.opnd hq
  simp only[R]at hv
  split at h
  ·rename_i el hk
   rw[hk]at hkd
   obtain rfl:=jH hkd
   split at h
   ·rename_i te hte
    have hs:=(hT.facts hte).run_sizeOf c.w
    split at h
    ·rename_i b off len sz
     split at h
     ·rename_i hb
      obtain rfl:=Option.some.inj h
      simp only[R]at hu
      obtain⟨g,cap,cur,e',fz,hg,hu,-,-,hcl,-⟩:=hu
      have hsh:∃ cur e fz,c.w.heap[g]?=some (.cells cur e fz):=⟨cur,e',fz,hcl⟩
      refine bV.mk hx (y:=.pointer (some ⟨g,off+n.toNat*te.size,none⟩)) ?_ (by rw[R];exact⟨g,hg,rfl,hsh⟩)
      rw[hu,hv]
      simp[Instr.indexAt,asIntOf,run_underlying hd,hb.1,hb.2.1,hs,Addr.add_lit]
     ·cases h
    ·rename_i len cs
     split at h
     ·rename_i hb
      obtain rfl:=Option.some.inj h
      simp only[R]at hu
      rcases hu with⟨hu,-⟩|⟨g,off,cap,xs,hu,-,h2,h3,h4,h5⟩
      ·omega
      ·refine bV.mk hx (y:=.pointer (some ⟨g,off+n.toNat*te.size,none⟩)) ?_ (by rw[R];exact⟨g,_,xs.drop (n.toNat*te.size),rfl,h2,h3,h4.drop _,h5.drop _⟩)
       rw[hu,hv]
       simp[Instr.indexAt,asIntOf,run_underlying hd,hb.1,hb.2,hs,Addr.add_lit]
     ·cases h
    ·cases h
   ·cases h
  ·rename_i len el hk
   rw[hk]at hkd
   obtain rfl:=kR hkd
   split at h
   ·rename_i te hte
    have hs:=(hT.facts hte).run_sizeOf c.w
    split at h
    ·rename_i hb
     split at h
     ·rename_i b off
      obtain rfl:=Option.some.inj h
      simp only[R]at hu
      obtain⟨g,hg,hu,hsh⟩:=hu
      refine bV.mk hx (y:=.pointer (some ⟨g,off+n.toNat*te.size,none⟩)) ?_ (by rw[R];exact⟨g,hg,rfl,hsh⟩)
      rw[hu,hv]
      simp[Instr.indexAt,asIntOf,run_underlying hd,Instr.sureAddr,hb.1,hb.2,hs,Addr.add_lit]
     ·rename_i g off
      obtain rfl:=Option.some.inj h
      simp only[R]at hu
      refine bV.mk hx (y:=.pointer (some ⟨g,off+n.toNat*te.size,none⟩)) ?_ (by rw[R])
      rw[hu,hv]
      simp[Instr.indexAt,asIntOf,run_underlying hd,Instr.sureAddr,hb.1,hb.2,hs,Addr.add_lit]
     ·rename_i cs
      obtain rfl:=Option.some.inj h
      simp only[R]at hu
      obtain⟨g,o1,xs,hu,h2,h3,h4,h5⟩:=hu
      refine bV.mk hx (y:=.pointer (some ⟨g,o1+n.toNat*te.size,none⟩)) ?_ (by rw[R];exact⟨g,_,xs.drop (n.toNat*te.size),rfl,h2,h3,h4.drop _,h5.drop _⟩)
      rw[hu,hv]
      simp[Instr.indexAt,asIntOf,run_underlying hd,Instr.sureAddr,hb.1,hb.2,hs,Addr.add_lit]
     ·cases h
    ·cases h
   ·cases h
  ·cases h
 ·cases h
end
end Go.Proofs.YtpdphobnchajbaaGreatDoor.Ev
namespace Go.Proofs.YtpdphobnchajbaaGreatDoor.Ev
open Go Go.RowKit
variable{P:Program}{T:Tb}
section
variable{c:Cfg}{e:Env}{a:Act}{o:Oper}{x:A}
theorem aEY(he:cF c e a){p:Option Operand}{u:Option A}(h:kF e p=some u):(u=none∧p.map a.eval=none)∨∃ z y,u=some z∧p.map a.eval=some y∧R c.ρ c.own c.w z y:=by
 cases p with
 |none=>left;simp[kF]at h;exact⟨h.symm,rfl⟩
 |some p =>
  right
  unfold kF at h
  cases hp:opnd e p with
  |none=>simp[hp]at h
  |some z =>
   simp only[hp,Option.map_some,Option.some.injEq]at h
   exact⟨z,a.eval p,h.symm,rfl,he.opnd hp⟩
theorem VT(he:cF c e a){p:Option Operand}{u:Option A}(h:kF e p=some u){n d i:Nat}(hb:bnd n u d=some i)(hd:d≤n)(code:BoundsCode)(N:Nat)(hN:n≤N) :
  i≤n∧(match p.map a.eval with|some v=>Instr.sliceBound v N code|none=>pure d:Sem Nat).run P c.w=.ok i c.w:=by
 rcases aEY he h with⟨rfl,h2⟩|⟨z,y,rfl,h2,hr⟩
 ·simp[bnd]at hb
  subst hb
  rw[h2]
  exact⟨hd,rfl⟩
 ·unfold bnd at hb
  split at hb
  ·simp_all
  ·rename_i k j hz
   obtain rfl:=Option.some.inj hz
   split at hb
   ·rename_i hj
    obtain rfl:=Option.some.inj hb
    simp only[R]at hr
    subst hr
    rw[h2]
    exact⟨by omega,run_sliceBound c.w k j N code hj.1 (by omega)⟩
   ·cases hb
  ·cases hb
theorem PM{n i j:Nat}{u v:Option A}(h:sR n u v=some (i,j)):bnd n v n=some j∧bnd j u 0=some i:=by
 unfold sR at h
 cases h1:bnd n v n with
 |none=>simp[h1]at h
 |some j' =>
  simp only[h1]at h
  cases h2:bnd j' u 0 with
  |none=>simp[h2]at h
  |some i' =>
   simp only[h2,Option.some.injEq,Prod.mk.injEq]at h
   obtain⟨rfl,rfl⟩:=h
   exact⟨rfl,h2⟩
theorem kK(he:cF c e a){p q:Option Operand}{u v:Option A}(hp:kF e p=some u)(hq:kF e q=some v){n i j:Nat}(h:sR n u v=some (i,j))(s:Bool)(N:Nat)(hN:n≤N) :
  i≤j∧j≤n∧(Instr.sliceBounds s n N (p.map a.eval) (q.map a.eval) none).run P c.w=.ok (i,j,N) c.w:=by
 obtain⟨h1,h2⟩:=PM h
 obtain⟨hj,hr1⟩:=VT (P:=P) he hq h1 (Nat.le_refl _) (if s then .sliceAcap else .sliceAlen) N hN
 obtain⟨hi,hr2⟩:=VT (P:=P) he hp h2 (Nat.zero_le _) .sliceB j (Nat.le_refl _)
 refine⟨hi,hj,?_⟩
 cases hp':p.map a.eval<;>cases hq':q.map a.eval<;>simp only[hp',hq']at hr1 hr2<;>simp[Instr.sliceBounds,hr1,hr2]<;>simp_all
theorem aCR(hT:TOk P T)(ok:Ok T.gl c)(he:cF c e a){t:TypeId}{p:Operand}{lo hi mx:Option Operand}(ho:o.op=.slice t p lo hi mx)(h:aN T e c.H (.slice t p lo hi mx)=some x):bV P c a o x:=by
 simp only[aN]at h
 have hx:execOp a.eval o=(do pure (.value (← Instr.sliceAt t (a.eval p) (lo.map a.eval) (hi.map a.eval) (mx.map a.eval))):Sem Next):=by simp only[execOp,ho]
 split at h
 ·rename_i ty u l hh hty hp hlo hhi
  obtain⟨d,hd,hkd⟩:=(hT.facts hty).desc
  have hu:=he.opnd hp
  split at h
  ·rename_i hk
   rw[hk]at hkd
   obtain rfl:=tJ hkd
   split at h
   ·rename_i s
    split at h
    ·rename_i i j hb
     obtain rfl:=Option.some.inj h
     simp only[R]at hu
     obtain⟨h1,h2,h3⟩:=kK (P:=P) he hlo hhi hb false s.size (Nat.le_refl _)
     refine bV.mk hx (y:=.string (s.extract i j)) ?_ (by rw[R])
     rw[hu]
     simp[Instr.sliceAt,Instr.slice,run_underlying hd,h3]
    ·cases h
   ·cases h
  ·rename_i el hk
   rw[hk]at hkd
   obtain rfl:=jH hkd
   split at h
   ·rename_i te hte
    have hs:=(hT.facts hte).run_sizeOf c.w
    split at h
    ·rename_i b off len sz
     split at h
     ·rename_i i j hb
      split at h
      ·rename_i hsz
       subst hsz
       simp only[R]at hu
       obtain⟨g,cap,cur,e',fz,hg,hu,h5,h6,h7,h8⟩:=hu
       obtain⟨h1,h2,h3⟩:=kK (P:=P) he hlo hhi hb true cap h5
       have hrun:(Instr.sliceAt t (a.eval p) (lo.map a.eval) (hi.map a.eval) (Option.map a.eval none)).run P c.w=.ok (.slice (if cap=i then some ⟨g,off,none⟩else some (Addr.add ⟨g,off,none⟩ (i*te.size))) (j-i) (cap-i)) c.w:=by
        rw[hu]
        simp[Instr.sliceAt,Instr.slice,run_underlying hd,h3,hs]
       split at h
       ·rename_i hi
        obtain rfl:=Option.some.inj h
        refine bV.mk hx hrun ?_
        rw[if_neg (by omega),Addr.add_lit,R]
        refine⟨g,cap-i,cur,e',fz,hg,rfl,by omega,by omega,h7,?_⟩
        rw[Nat.add_assoc,← Nat.add_mul,Nat.add_sub_cancel' (by omega:i≤cap)]
        exact h8
       ·rename_i hi
        obtain rfl:=Option.some.inj h
        refine bV.mk hx hrun ?_
        rw[R]
        left
        have:j-i=0:=by omega
        rw[this]
        exact⟨rfl,rfl,_,_,rfl⟩
      ·cases h
     ·cases h
    ·rename_i len cs
     split at h
     ·rename_i i j hb
      split at h
      ·rename_i hcs
       obtain rfl:=Option.some.inj h
       simp only[R]at hu
       rcases hu with⟨h4,h5,ad,cap,hu⟩|⟨g,off,cap,xs,hu,hcap,h4,h5,h6,h7⟩
       ·subst h4 h5
        obtain⟨h1,h2,h3⟩:=kK (P:=P) he hlo hhi hb true cap (Nat.zero_le _)
        refine bV.mk hx (y:=.slice (if cap=i then ad else ad.map (·.add (i*te.size))) (j-i) (cap-i)) ?_ ?_
        ·rw[hu]
         simp[Instr.sliceAt,Instr.slice,run_underlying hd,h3,hs]
        ·rw[R]
         left
         have:j-i=0:=by omega
         rw[this]
         exact⟨rfl,by simp,_,_,rfl⟩
       ··obtain⟨h1,h2,h3⟩:=kK (P:=P) he hlo hhi hb true cap hcap
         have hrun:(Instr.sliceAt t (a.eval p) (lo.map a.eval) (hi.map a.eval) (Option.map a.eval none)).run P c.w=.ok (.slice (if cap=i then some ⟨g,off,none⟩else some (Addr.add ⟨g,off,none⟩ (i*te.size))) (j-i) (cap-i)) c.w:=by
          rw[hu]
          simp[Instr.sliceAt,Instr.slice,run_underlying hd,h3,hs]
         refine bV.mk hx hrun ?_
         rw[R]
         by_cases hij:j-i=0
         ·left
          rw[hij]
          exact⟨rfl,by simp,_,_,rfl⟩
         ·right
          rw[if_neg (by omega),Addr.add_lit]
          exact⟨g,off+i*te.size,cap-i,(xs.drop (i*te.size)).take ((j-i)*te.size),rfl,by omega,h4,h5,(h6.drop _).take _,(h7.drop _).take _⟩
      ·cases h
     ·cases h
    ·split at h
     ·rename_i ij hb
      obtain rfl:=Option.some.inj h
      simp only[R]at hu
      obtain⟨h1,h2,h3⟩:=kK (P:=P) he hlo hhi hb true 0 (Nat.le_refl _)
      refine bV.mk hx (y:=.slice none 0 0) ?_ (by rw[R])
      rw[hu]
      have hj:ij.2=0:=by omega
      have hi:ij.1=0:=by omega
      simp[Instr.sliceAt,Instr.slice,run_underlying hd,h3,hs,hi,hj]
     ·cases h
    ·cases h
   ·cases h
  ·rename_i n el hk
   rw[hk]at hkd
   obtain rfl:=kR hkd
   split at h
   ·rename_i te i j hte hb
    have hs:=(hT.facts hte).run_sizeOf c.w
    obtain⟨h1,h2,h3⟩:=kK (P:=P) he hlo hhi hb false n (Nat.le_refl _)
    split at h
    ·rename_i cs
     split at h
     ·rename_i hlen
      obtain rfl:=Option.some.inj h
      simp only[R]at hu
      obtain⟨g,off,xs,hu,h4,h5,h6,h7⟩:=hu
      have hrun:(Instr.sliceAt t (a.eval p) (lo.map a.eval) (hi.map a.eval) (Option.map a.eval none)).run P c.w=.ok (.slice (some (if n=i then⟨g,off,none⟩else Addr.add ⟨g,off,none⟩ (i*te.size))) (j-i) (n-i)) c.w:=by
       rw[hu]
       simp[Instr.sliceAt,Instr.sureAddr,run_underlying hd,h3,hs]
      refine bV.mk hx hrun ?_
      rw[R]
      by_cases hij:j-i=0
      ·left
       rw[hij]
       exact⟨rfl,by simp,_,_,rfl⟩
      ·right
       rw[if_neg (by omega),Addr.add_lit]
       exact⟨g,off+i*te.size,n-i,(xs.drop (i*te.size)).take ((j-i)*te.size),rfl,by omega,h4,h5,(h6.drop _).take _,(h7.drop _).take _⟩
     ·cases h
    ·rename_i b off
     split at h
     ·rename_i k hbk
      split at h
      ·rename_i hc
       simp only[Bool.and_eq_true,Nat.ble_eq]at hc
       obtain⟨⟨hw,hsum⟩,hmax⟩:=hc
       simp only[R]at hu
       obtain⟨g,hg,hu,hsh⟩:=hu
       obtain⟨cur,xs,hcur,-,-,-,hwh⟩:=ok.lies hbk hg hsh
       have hrun:(Instr.sliceAt t (a.eval p) (lo.map a.eval) (hi.map a.eval) (Option.map a.eval none)).run P c.w=.ok (.slice (some (if n=i then⟨g,off,none⟩else Addr.add ⟨g,off,none⟩ (i*te.size))) (j-i) (n-i)) c.w:=by
        rw[hu]
        simp[Instr.sliceAt,Instr.sureAddr,run_underlying hd,h3,hs]
       split at h
       ·rename_i hi
        obtain rfl:=Option.some.inj h
        refine bV.mk hx hrun ?_
        rw[if_neg (by omega),Addr.add_lit,R]
        refine⟨g,n-i,cur,k.e,(0,0),hg,rfl,by omega,by omega,hcur,?_⟩
        rw[Nat.add_assoc,← Nat.add_mul,Nat.add_sub_cancel' (by omega:i≤n),hwh hw]
        exact hsum
       ·rename_i hi
        obtain rfl:=Option.some.inj h
        refine bV.mk hx hrun ?_
        rw[R]
        left
        have:j-i=0:=by omega
        rw[this]
        exact⟨rfl,rfl,_,_,rfl⟩
      ·cases h
     ·cases h
    ·cases h
   ·cases h
  ·cases h
 ·cases h
end
end Go.Proofs.YtpdphobnchajbaaGreatDoor.Ev
namespace Go.Proofs.YtpdphobnchajbaaGreatDoor.Ev
open Go Go.RowKit
variable{P:Program}{T:Tb}
theorem vN{ρ:List Nat}{own:Nat→Prop}{w:World}{a:A}{y:Value}(h:R ρ own w a y):RL ρ own w (dT a) y.cells.toList:=by
 cases a with
 |agg cs =>
  simp only[R]at h
  obtain⟨xs,rfl,h2⟩:=h
  simpa[dT,Value.cells]using h2
 |v x =>
  simp only[R]at h
  subst h
  cases y<;>first
   |(simp only[dT,Value.cells];exact RL.cons (by rw[R]) RL.nil)
   |(simp only[dT,Value.cells];exact RL.exact _)
 |tup vs =>
  have h':=h
  simp only[R]at h
  obtain⟨xs,rfl,h2⟩:=h
  simp only[dT,Value.cells]
  exact RL.cons h' RL.nil
 |ptr b off =>
  have h':=h
  simp only[R]at h
  obtain⟨g,-,rfl,-⟩:=h
  simp only[dT,Value.cells]
  exact RL.cons h' RL.nil
 |mp b =>
  have h':=h
  simp only[R]at h
  obtain⟨g,-,rfl,-⟩:=h
  simp only[dT,Value.cells]
  exact RL.cons h' RL.nil
 |mf cs =>
  have h':=h
  simp only[R]at h
  rcases h with⟨-,rfl⟩|⟨g,es,n,rfl,-⟩
  ·simp only[dT,Value.cells]
   exact RL.cons h' RL.nil
  ·simp only[dT,Value.cells]
   exact RL.cons h' RL.nil
 |ref b off len sz =>
  have h':=h
  simp only[R]at h
  obtain⟨g,cap,cur,e,fz,-,rfl,-⟩:=h
  simp only[dT,Value.cells]
  exact RL.cons h' RL.nil
 |sl len cs =>
  have h':=h
  simp only[R]at h
  rcases h with⟨-,-,ad,cap,rfl⟩|⟨g,off,cap,xs,rfl,-⟩
  ·simp only[dT,Value.cells]
   exact RL.cons h' RL.nil
  ·simp only[dT,Value.cells]
   exact RL.cons h' RL.nil
 |fp cs =>
  have h':=h
  simp only[R]at h
  obtain⟨g,off,xs,rfl,-⟩:=h
  simp only[dT,Value.cells]
  exact RL.cons h' RL.nil
 |clo f fs caps =>
  have h':=h
  simp only[R]at h
  obtain⟨xs,ys,rfl,-⟩:=h
  simp only[dT,Value.cells]
  exact RL.cons h' RL.nil
 |yl b =>
  have h':=h
  simp only[R]at h
  obtain⟨g,-,rfl,-⟩:=h
  simp only[dT,Value.cells]
  exact RL.cons h' RL.nil
 |lrec nt ps sl a b =>
  rw[R]at h
  exact h.elim
 |it b =>
  have h':=h
  simp only[R]at h
  obtain⟨g,-,rfl,-⟩:=h
  simp only[dT,Value.cells]
  exact RL.cons h' RL.nil
 |its s p =>
  rw[R]at h
  exact h.elim
theorem pZ:∀(vs:List Value) (k off:Nat) (cs:Array Value),off+k+vs.length≤cs.size →
  ((vs.zipIdx k).foldl (fun(cs:Array Value) (p:Value×Nat)=>cs.setIfInBounds (off+p.2) p.1) cs).toList=cs.toList.take (off+k)++vs++cs.toList.drop (off+k+vs.length)
 |[],k,off,cs,_=>by simp
 |v::vs,k,off,cs,h=>by
  simp only[List.length_cons]at h
  rw[List.zipIdx_cons,List.foldl_cons]
  rw[pZ vs (k+1) off (cs.setIfInBounds (off+k) v) (by simp;omega)]
  have:=list_seg_step cs.toList (off+k) v vs (by simp;omega)
  simp only[Array.toList_setIfInBounds]
  rw[List.append_assoc,List.append_assoc]at this ⊢
  rw[show off+(k+1)=off+k+1 by omega]
  rw[this]
  simp[Nat.add_assoc]
theorem yG{ρ:List Nat}{own:Nat→Prop}{w:World}(place:Nat→Option (Nat×Nat)):∀(ps:List (Nat×A)) (vs:List (Nat×Value)) (cs:List A) (xs:List Value) (r:List A),
  lJ place cs ps=some r→RL ρ own w cs xs→ps.map (·.1)=vs.map (·.1)→(∀(i:Nat) p v,ps[i]?=some p→vs[i]?=some v→R ρ own w p.2 v.2) →
  ∃ ys:List Value,Instr.fill place xs.toArray vs=some ys.toArray∧RL ρ own w r ys
 |[],[],cs,xs,r,h,hx,_,_=>by
  simp[lJ]at h
  subst h
  exact⟨xs,by simp[Instr.fill],hx⟩
 |[],_::_,_,_,_,_,_,hm,_=>by simp at hm
 |_::_,[],_,_,_,_,_,hm,_=>by simp at hm
 |(i,z)::ps,(j,v)::vs,cs,xs,r,h,hx,hm,hr=>by
  simp only[List.map_cons,List.cons.injEq]at hm
  obtain⟨rfl,hm⟩:=hm
  unfold lJ at h
  cases hp:place i with
  |none=>simp[hp]at h
  |some os =>
   obtain⟨off,size⟩:=os
   simp only[hp]at h
   split at h
   ·rename_i hc
    have hz:=vN (hr 0 (i,z) (i,v) rfl rfl)
    have hlen:v.cells.size=size:=by
     have:=hz.length
     simp only[Array.length_toList]at this
     omega
    have hxl:=hx.length
    have hx':RL ρ own w (cs.take off++dT z++cs.drop (off+size)) (xs.take off++v.cells.toList++xs.drop (off+size)):=((hx.take off).append hz).append (hx.drop _)
    obtain⟨ys,h1,h2⟩:=yG place ps vs _ _ r h hx' hm (fun k p v hp hv=>hr (k+1) p v (by simpa using hp) (by simpa using hv))
    refine⟨ys,?_,h2⟩
    have hsz:(decide (v.cells.size≠size)||decide (off+v.cells.size > xs.toArray.size))=false:=by simp;omega
    simp only[Instr.fill,hp,hsz,Bool.false_eq_true,if_false]
    rw[← h1]
    congr 1
    apply Array.ext'
    rw[← Array.foldl_toList,Array.toList_zipIdx]
    rw[pZ v.cells.toList 0 off xs.toArray (by simp;omega)]
    simp[hlen]
   ·cases h
section
variable{c:Cfg}{e:Env}{a:Act}{o:Oper}{x:A}
theorem u4(he:cF c e a):∀{l:List (Nat×Operand)} {ps:List (Nat×A)},lI e l=some ps→ps.map (·.1)=(l.map fun p=>(p.1,a.eval p.2)).map (·.1)∧∀(i:Nat) p v,ps[i]?=some p→(l.map fun p=>(p.1,a.eval p.2))[i]?=some v→R c.ρ c.own c.w p.2 v.2
 |[],ps,h=>by
  simp[lI]at h
  subst h
  exact⟨rfl,fun i p v h=>by simp at h⟩
 |(i,q)::l,ps,h=>by
  unfold lI at h
  cases h1:opnd e q with
  |none=>simp[h1]at h
  |some z =>
   cases h2:lI e l with
   |none=>simp[h1,h2]at h
   |some ps' =>
    simp only[h1,h2,Option.some.injEq]at h
    subst h
    obtain⟨h3,h4⟩:=u4 he h2
    refine⟨by simpa using h3,fun k p v hp hv=>?_⟩
    cases k with
    |zero =>
     simp at hp hv
     subst hp hv
     exact he.opnd h1
    |succ k=>exact h4 k p v (by simpa using hp) (by simpa using hv)
theorem rN{t:TypeId}{ty:Ty}(F:iL P t ty):∃ i z,P.info? t=some i∧i.size=ty.size∧i.zero=some z∧z.cells=ty.zero.toArray:=by
 obtain⟨i,z,h1,h2,h3,h4,h5⟩:=F.info
 obtain⟨z',h6,h7,-⟩:=F.zero (default:World)
 simp only[zeroValue,Sem.run_bind,typeInfo,run_program,h1,Result.andThen_ok,Sem.run_pure,h4,Result.ok.injEq,and_true]at h6
 subst h6
 exact⟨i,z,h1,h2,h4,by rw[← h7]⟩
theorem CG(hT:TOk P T):∀(fds:List Field) (l:List (Nat×Nat)),lD T (fds.map fun f=>(f.type,f.offset,f.name != "_"))=some l→fds.mapM (fun f=>(P.info? f.type).map fun i=>(f.offset,i.size))=some l
 |[],l,h=>by simp[lD]at h;subst h;simp
 |f::fds,l,h=>by
  simp only[List.map_cons]at h
  unfold lD at h
  cases h1:T f.type with
  |none=>simp[h1]at h
  |some ty =>
   cases h2:lD T (fds.map fun f=>(f.type,f.offset,f.name != "_"))with
   |none=>simp[h1,h2]at h
   |some l' =>
    simp only[h1,h2,Option.some.injEq]at h
    subst h
    obtain⟨i,z,h3,h4,-⟩:=rN (hT.facts h1)
    simp[List.mapM_cons,h3,h4,CG hT fds l' h2]
theorem aDD(hT:TOk P T)(he:cF c e a){t:TypeId}{ps:Array (Nat×Operand)}(ho:o.op=.build t ps)(h:aN T e c.H (.build t ps)=some x):bV P c a o x:=by
 simp only[aN]at h
 have hx:execOp a.eval o=(do pure (.value (← Instr.build t (ps.map fun(i,x)=>(i,a.eval x)))):Sem Next):=by simp only[execOp,ho]
 split at h
 ·rename_i ty qs hty hq
  obtain⟨h1,h2⟩:=u4 he hq
  obtain⟨i,z,hi,his,hz,hzc⟩:=rN (hT.facts hty)
  obtain⟨d,hd,hkd⟩:=(hT.facts hty).desc
  have hzero:RL c.ρ c.own c.w (ty.zero.map .v) ty.zero:=RL.exact _
  have hlist:(ps.map fun(i,x)=>(i,a.eval x)).toList=ps.toList.map fun p=>(p.1,a.eval p.2):=by simp
  split at h
  ·rename_i fs hk
   rw[hk]at hkd
   obtain⟨fds,rfl,hfs⟩:=sB hkd
   split at h
   ·rename_i l hl
    cases hf:lJ (fun i=>l[i]?) (ty.zero.map .v) qs with
    |none=>simp[hf]at h
    |some r =>
     simp only[hf,Option.map_some,Option.some.injEq]at h
     subst h
     obtain⟨ys,h3,h4⟩:=yG (fun i=>l[i]?) qs _ _ _ r hf hzero h1 h2
     refine bV.mk hx (y:=.agg ys.toArray) (run_build c.w t _ ys.toArray ?_) (by rw[R];exact⟨ys,rfl,h4⟩)
     rw[hlist]
     subst hfs
     have:=CG hT fds.toList l hl
     simp only[Program.built,hi,hd,hz,this,hzc]
     rw[← h3]
     congr 1
     funext i
     simp
   ·cases h
  ·rename_i n el hk
   rw[hk]at hkd
   obtain rfl:=kR hkd
   split at h
   ·rename_i te hte
    obtain⟨ie,ze,hie,hies,-⟩:=rN (hT.facts hte)
    cases hf:lJ (fun i=>some (i*te.size,te.size)) (ty.zero.map .v) qs with
    |none=>simp[hf]at h
    |some r =>
     simp only[hf,Option.map_some,Option.some.injEq]at h
     subst h
     obtain⟨ys,h3,h4⟩:=yG _ qs _ _ _ r hf hzero h1 h2
     refine bV.mk hx (y:=.agg ys.toArray) (run_build c.w t _ ys.toArray ?_) (by rw[R];exact⟨ys,rfl,h4⟩)
     rw[hlist]
     simp only[Program.built,hi,hd,hz,hie,hies,hzc]
     exact h3
   ·cases h
  ·cases h
 ·cases h
theorem EM(mx:Bool){ρ:List Nat}{own:Nat→Prop}{w:World}:∀(l:List A) (x r:A) (y:Value) (ys:List Value),aN.minA mx x l=some r→R ρ own w x y→RL ρ own w l ys →
  ∃ z,(ys.foldlM (if mx then Builtin.max2 else Builtin.min2) y).run P w=.ok z w∧R ρ own w r z
 |[],x,r,y,ys,h,hx,hl=>by
  rw[RL]at hl
  subst hl
  simp[aN.minA]at h
  subst h
  exact⟨y,by simp,hx⟩
 |u::l,x,r,y,ys,h,hx,hl=>by
  rw[RL]at hl
  obtain⟨v,vs,rfl,h1,h2⟩:=hl
  unfold aN.minA at h
  split at h
  ·rename_i k p k' q
   simp only[R]at hx h1
   subst hx h1
   obtain⟨z,h3,h4⟩:=EM mx l _ r _ vs h (by rw[R]) h2
   refine⟨z,?_,h4⟩
   rw[List.foldlM_cons,Sem.run_bind]
   cases mx
   ·simpa[Builtin.min2]using h3
   ·simpa[Builtin.max2]using h3
  ·cases h
theorem aIc(hT:TOk P T)(he:cF c e a){cl:Call}(ho:o.op=.call cl)(h:aN T e c.H (.call cl)=some x):bV P c a o x:=by
 simp only[aN]at h
 split at h
 ·rename_i hc
  have hx:execOp a.eval o=(do pure (.value (← Builtin.len_ cl.argTypes o.type (cl.args.map a.eval))):Sem Next):=by simp[execOp,ho,resolve,hc,invoke,builtin]
  split at h
  ·rename_i u ty hu hty
   cases ht:cl.argTypes[0]? with
   |none=>simp[ht]at hty
   |some t =>
    simp only[ht,Option.bind_some]at hty
    obtain⟨d,hd,hkd⟩:=(hT.facts hty).desc
    obtain⟨y,hy,hr⟩:=(he.opnds hu).single
    have hargs:(cl.args.map a.eval)[0]?=some y:=by
     have:(cl.args.map a.eval).toList[0]?=some y:=by simp[hy]
     simpa using this
    have hrun:∀ z,(match d,y with
      |.string,.string s=>pure (goInt s.size)
      |.array n _,_=>pure (goInt n)
      |.slice _,.slice _ n _=>pure (goInt n)
      |_,_=>stuck "":Sem Value).run P c.w=.ok z c.w→(Builtin.len_ cl.argTypes o.type (cl.args.map a.eval)).run P c.w=.ok z c.w:=by
     intro z hz
     unfold Builtin.len_
     simp only[ht,hargs,Sem.run_bind,run_underlying hd,Result.andThen_ok]
     cases d<;>cases y<;>first
      |(simp at hz;done)
      |exact hz
    split at h
    ·rename_i hk
     rw[hk]at hkd
     obtain rfl:=tJ hkd
     split at h
     ·obtain rfl:=Option.some.inj h
      simp only[R]at hr
      subst hr
      exact bV.mk hx (hrun _ rfl) (by rw[R];rfl)
     ·cases h
    ·rename_i n el hk
     obtain rfl:=Option.some.inj h
     rw[hk]at hkd
     obtain rfl:=kR hkd
     exact bV.mk hx (hrun (goInt n) (by cases y<;>rfl)) (by rw[R];rfl)
    ·rename_i el hk
     rw[hk]at hkd
     obtain rfl:=jH hkd
     split at h
     ·obtain rfl:=Option.some.inj h
      simp only[R]at hr
      obtain⟨g,cap,cur,e',fz,-,rfl,-⟩:=hr
      exact bV.mk hx (hrun _ rfl) (by rw[R];rfl)
     ·obtain rfl:=Option.some.inj h
      simp only[R]at hr
      rcases hr with⟨rfl,-,ad,cap,rfl⟩|⟨g,off,cap,xs,rfl,-⟩
      ·exact bV.mk hx (hrun _ rfl) (by rw[R];rfl)
      ·exact bV.mk hx (hrun _ rfl) (by rw[R];rfl)
     ·obtain rfl:=Option.some.inj h
      simp only[R]at hr
      subst hr
      exact bV.mk hx (hrun _ rfl) (by rw[R];rfl)
     ·cases h
    ·cases h
  ·cases h
 ·rename_i hc
  have hx:execOp a.eval o=(do pure (.value (← Builtin.min_ cl.argTypes o.type (cl.args.map a.eval))):Sem Next):=by simp[execOp,ho,resolve,hc,invoke,builtin]
  split at h
  ·rename_i u l hu
   have hl:=he.opnds hu
   rw[RL]at hl
   obtain⟨y,ys,hy,h1,h2⟩:=hl
   obtain⟨z,h3,h4⟩:=EM (P:=P) false l u x y ys h h1 h2
   refine bV.mk hx (y:=z) ?_ h4
   have:(cl.args.map a.eval).toList=y::ys:=by simpa using hy
   unfold Builtin.min_
   rw[this]
   simpa using h3
  ·cases h
 ·rename_i hc
  have hx:execOp a.eval o=(do pure (.value (← Builtin.cap_ cl.argTypes o.type (cl.args.map a.eval))):Sem Next):=by simp[execOp,ho,resolve,hc,invoke,builtin]
  split at h
  ·rename_i l0 n0 ty hu hty
   cases ht:cl.argTypes[0]? with
   |none=>simp[ht]at hty
   |some t =>
    simp only[ht,Option.bind_some]at hty
    obtain⟨d,hd,hkd⟩:=(hT.facts hty).desc
    obtain⟨y,hy,hr⟩:=(he.opnds hu).single
    rw[R]at hr
    subst hr
    have hargs:(cl.args.map a.eval)[0]?=some (.slice none l0 n0):=by
     have:(cl.args.map a.eval).toList[0]?=some (.slice none l0 n0):=by simp[hy]
     simpa using this
    split at h
    ·rename_i el hk
     rw[hk]at hkd
     obtain rfl:=jH hkd
     obtain rfl:=Option.some.inj h
     refine bV.mk hx (y:=.int .i64 n0) ?_ (by rw[R])
     unfold Builtin.cap_
     simp only[ht,hargs,Sem.run_bind,run_underlying hd,Result.andThen_ok,Sem.run_pure]
     rfl
    ·cases h
  ·cases h
 ·rename_i hc
  have hx:execOp a.eval o=(do pure (.value (← Builtin.unsafeSliceData_ cl.argTypes o.type (cl.args.map a.eval))):Sem Next):=by simp[execOp,ho,resolve,hc,invoke,builtin]
  split at h
  ·rename_i l0 n0 hu
   have hl:=he.opnds hu
   rw[RL]at hl
   obtain⟨y,ys,hy,h1,h2⟩:=hl
   rw[RL]at h2
   subst h2
   rw[R]at h1
   subst h1
   obtain rfl:=Option.some.inj h
   have hargs:cl.args.map a.eval=#[.slice none l0 n0]:=by
    apply Array.ext'
    simpa using hy
   rw[hargs]at hx
   exact bV.mk hx (y:=.pointer none) rfl (by rw[R])
  ·rename_i b0 off0 n0 s0 hu
   have hl:=he.opnds hu
   rw[RL]at hl
   obtain⟨y,ys,hy,h1,h2⟩:=hl
   rw[RL]at h2
   subst h2
   rw[R]at h1
   obtain⟨g,cap,cur,e',fz,hg,rfl,hn,-,hcl,-⟩:=h1
   obtain rfl:=Option.some.inj h
   have hargs:cl.args.map a.eval=#[.slice (some ⟨g,off0,none⟩) (n0+1) cap]:=by
    apply Array.ext'
    simpa using hy
   rw[hargs]at hx
   exact bV.mk hx (y:=.pointer (some ⟨g,off0,none⟩)) (Lib.run_unsafeSliceData_row c.w _ _ _ _ _ (by omega)) (by rw[R];exact⟨g,hg,rfl,cur,e',fz,hcl⟩)
  ·cases h
 ·rename_i hc
  have hx:execOp a.eval o=(do pure (.value (← Builtin.max_ cl.argTypes o.type (cl.args.map a.eval))):Sem Next):=by simp[execOp,ho,resolve,hc,invoke,builtin]
  split at h
  ·rename_i u l hu
   have hl:=he.opnds hu
   rw[RL]at hl
   obtain⟨y,ys,hy,h1,h2⟩:=hl
   obtain⟨z,h3,h4⟩:=EM (P:=P) true l u x y ys h h1 h2
   refine bV.mk hx (y:=z) ?_ h4
   have:(cl.args.map a.eval).toList=y::ys:=by simpa using hy
   unfold Builtin.max_
   rw[this]
   simpa using h3
  ·cases h
 ·cases h
theorem DA{d:TypeDesc}{k e:TypeId}(h:kOf d=.map k e):d=.map k e:=by
 cases d<;>first
  |(simp only[kOf,K.map.injEq]at h;obtain⟨rfl,rfl⟩:=h;rfl)
  |(simp[kOf]at h;done)
theorem aCf{a b:ByteArray}(h:(a==b)=true):a=b:=by
 cases a with|mk a=>cases b with|mk b =>
 have:(a==b)=true:=h
 rw[eq_of_beq this]
theorem N3 {d : TypeDesc} {kd : K} (hd : kOf d = kd) {x y : Value} (hx : fL kd x = true) (hy : fL kd y = true) : Instr.sameNow d x y = some (fZ x y) ∧ (fZ x y = true → x = y) := by
  subst hd
  cases d <;> cases x <;> first
    | (simp [kOf, fL] at hx; done)
    | (cases y <;> first
        | (simp [kOf, fL] at hy; done)
        | (simp only [kOf, fL, decide_eq_true_eq] at hx hy
           subst hx
           subst hy
           refine ⟨by simp [Instr.sameNow, fZ], fun h => ?_⟩
           have h := eq_of_beq h
           subst h
           rfl)
        | (refine ⟨by simp [Instr.sameNow, fZ], fun h => ?_⟩
           have h := eq_of_beq h
           subst h
           rfl)
        | exact ⟨rfl, fun h => congrArg Value.string (aCf h)⟩)
theorem qH{t:TypeId}{d:TypeDesc}(hd:P.underlying t=some d){kd:K}(hk:kOf d=kd){x:Value}(hx:fL kd x=true)(b:Bool)(w:World)(n:Nat):(Instr.checkKey b (n+1) t x).run P w=.ok () w:=by
 subst hk
 unfold Instr.checkKey
 simp only[Sem.run_bind,run_underlying hd,Result.andThen_ok]
 cases d<;>cases x<;>first
  |(simp[kOf,fL]at hx;done)
  |rfl
theorem iF(e0:MapEntry)(es:List MapEntry):gE (e0::es)=e0.key::e0.val::gE es:=by simp[gE]
theorem zW{d:TypeDesc}{kd:K}(hd:kOf d=kd){key:Value}(hk:fL kd key=true){ρ:List Nat}{own:Nat→Prop}{w:World}:∀(es:List MapEntry) (cs:List A) (i:Nat) (r:Option (Nat×A)),kH kd key cs i=some r→RL ρ own w cs (gE es) →
  (r=none∧Instr.findNow d key es i=some none)∨∃ k a e,r=some (i+k,a)∧Instr.findNow d key es i=some (some (i+k,e.val))∧es[k]?=some e∧R ρ own w a e.val∧e.key=key:=by
 intro es
 induction es with
 |nil =>
  intro cs i r h hr
  have hl:=hr.length
  cases cs with
  |nil =>
   simp only[kH,Option.some.injEq]at h
   exact .inl ⟨h.symm,rfl⟩
  |cons _ _=>simp[gE]at hl
 |cons e0 es ih =>
  intro cs i r h hr
  rw[iF]at hr
  cases cs with
  |nil=>rw[RL]at hr;cases hr
  |cons z cs =>
   cases cs with
   |nil =>
    have hl:=hr.length
    simp at hl
   |cons a0 cs =>
    rw[RL]at hr
    obtain⟨_,_,h0,h1,hr⟩:=hr
    injection h0 with h01 h02
    subst h01
    subst h02
    rw[RL]at hr
    obtain⟨_,_,h0,h2,hr⟩:=hr
    injection h0 with h01 h02
    subst h01
    subst h02
    cases z with
    |v z =>
     rw[R]at h1
     unfold kH at h
     split at h
     ·rename_i hz
      obtain⟨h3,h4⟩:=N3 hd hk hz
      rw[← h1]at h3 h4
      split at h
      ·rename_i hs
       simp only[Option.some.injEq]at h
       subst h
       rw[← h1]at hs
       rw[hs]at h3
       refine .inr ⟨0,a0,e0,rfl,?_,rfl,h2,(h4 hs).symm⟩
       simp[Instr.findNow,h3]
      ·rename_i hs
       rw[← h1]at hs
       simp only[Bool.not_eq_true]at hs
       rw[hs]at h3
       rcases ih cs (i+1) r h hr with⟨k1,k2⟩|⟨k,a,e,k1,k2,k3,k4⟩
       ·exact .inl ⟨k1,by simp[Instr.findNow,h3,k2]⟩
       ·refine .inr ⟨k+1,a,e,by rw[k1];congr 2;omega,?_,by simpa using k3,k4⟩
        simp only[Instr.findNow,h3,k2]
        congr 3
        omega
     ·cases h
    |_=>simp[kH]at h
theorem mK{t:TypeId}{d:TypeDesc}(hd:P.underlying t=some d){key:Value}{es:List MapEntry}{r:Option (Nat×Value)}(h:Instr.findNow d key es 0=some r)(w:World):(Instr.findKey t key es).run P w=.ok r w:=by
 simp[Instr.findKey,run_underlying hd,h]
theorem LM(ok:Ok T.gl c){m:A}{y:Value}{cs:List A}(h:dX c.H m=some cs)(hr:R c.ρ c.own c.w m y):(cs=[]∧y=.map none)∨∃ g es n,y=.map (some g)∧c.w.heap[g]?=some (.map es n)∧RL c.ρ c.own c.w cs (gE es.toList):=by
 unfold dX at h
 split at h
 ·simp only[Option.some.injEq]at h
  subst h
  rw[R]at hr
  rcases hr with⟨rfl,rfl⟩|⟨g,es,n,rfl,-,-,h3,h4⟩
  ·exact .inl ⟨rfl,rfl⟩
  ·exact .inr ⟨g,es,n,rfl,h3,h4.open_⟩
 ·simp only[Option.some.injEq]at h
  subst h
  rw[R]at hr
  exact .inl ⟨rfl,hr⟩
 ·split at h
  ·rename_i k hb
   simp only[Option.some.injEq]at h
   subst h
   rw[R]at hr
   obtain⟨g,hg,rfl,es,n,hm⟩:=hr
   rcases ok.blk _ k.e k.cs k.whole g hb hg with⟨cur,xs,h1,-⟩|⟨es',n',h1,h2,-⟩|⟨r',nt',ps',sl',a',b',rest',h1,-⟩|⟨s',p',h1,-⟩
   ·rw[hm]at h1
    cases h1
   ·exact .inr ⟨g,es',n',rfl,h1,h2⟩
   ·rw[hm]at h1
    cases h1
   ·rw[hm]at h1
    cases h1
  ·cases h
 ·cases h
theorem MB{t:TypeId}{ty:Ty}(F:iL P t ty){z:A}(h:AN ty=some z)(w:World){ρ:List Nat}{own:Nat→Prop}{w0:World}:∃ y,(zeroValue t).run P w=.ok y w∧R ρ own w0 z y:=by
 obtain⟨y,h1,h2,h3⟩:=F.zero w
 refine⟨y,h1,?_⟩
 unfold AN at h
 split at h
 ·rename_i ha
  simp only[Option.some.injEq]at h
  subst h
  rw[h3 ha,R]
  exact⟨ty.zero,rfl,RL.exact _⟩
 ·rename_i ha
  split at h
  ·rename_i z0 hz
   simp only[Option.some.injEq]at h
   subst h
   rw[R]
   obtain⟨i,zz,k1,k2,k3,k4,k5⟩:=F.info
   simp only[zeroValue,typeInfo,Sem.run_bind,run_program,k1,Result.andThen_ok,Sem.run_pure,k4,Result.ok.injEq,and_true]at h1
   subst h1
   unfold vJ at k5
   split at k5
   ·simp[ha]at k5
   ·simp only[ha,Bool.false_eq_true,if_false,Option.some.injEq]at k5
    rw[hz]at k5
    simpa using k5
  ·cases h
theorem TH{ρ:List Nat}{own:Nat→Prop}{w:World}:∀{cs:List A} {r ys:List Value},tB cs=some r→RL ρ own w cs ys→ys=r
 |[],r,ys,h,hr=>by
  rw[RL]at hr
  simp only[tB,Option.some.injEq]at h
  rw[hr,h]
 |c0::cs,r,ys,h,hr=>by
  rw[RL]at hr
  obtain⟨y,zs,rfl,h1,h2⟩:=hr
  unfold tB at h
  split at h
  ·rename_i heq
   cases heq
  ·rename_i x l heq
   injection heq with e1 e2
   subst e1
   subst e2
   rw[Option.map_eq_some_iff]at h
   obtain⟨r',h3,rfl⟩:=h
   rw[R]at h1
   rw[h1,TH h3 h2]
  ·cases h
theorem QX{ρ:List Nat}{own:Nat→Prop}{w:World}{a:A}{x y:Value}(h:OE a=some x)(hr:R ρ own w a y):y=x:=by
 cases a with
 |v z =>
  rw[R]at hr
  exact hr.trans (Option.some.inj h)
 |agg cs =>
  simp only[OE,Option.map_eq_some_iff]at h
  obtain⟨r,h1,rfl⟩:=h
  rw[R]at hr
  obtain⟨xs,rfl,h2⟩:=hr
  rw[TH h1 h2]
 |_=>simp[OE]at h
theorem GM{k:IntKind}:∀{xs:List Value},nH k xs=true→∀(i:Nat) x,xs[i]?=some x→∃ z,x=.int k z
 |[],_,i,x,h=>by simp at h
 |y::l,h,i,x,hx=>by
  unfold nH at h
  split at h
  ·rename_i heq
   cases heq
  ·rename_i k' z l' heq
   injection heq with e1 e2
   subst e1
   subst e2
   simp only[Bool.and_eq_true,decide_eq_true_eq]at h
   obtain⟨rfl,h⟩:=h
   cases i with
   |zero=>simp at hx;exact⟨z,hx.symm⟩
   |succ i=>exact GM h i x (by simpa using hx)
  ·cases h
theorem mN(hT:TOk P T){kt:TypeId}{tk:Ty}(ht:T kt=some tk){x:Value}(h:kY T tk x=true)(b:Bool)(w:World):(Instr.checkKey b 10000 kt x).run P w=.ok () w:=by
 obtain⟨d,hd,hd1⟩:=(hT.facts ht).desc
 unfold kY at h
 simp only[Bool.or_eq_true]at h
 rcases h with h|h
 ·exact qH hd hd1 h b w 9999
 ·split at h
  ·rename_i n el xs hk
   split at h
   ·rename_i te hte
    split at h
    ·rename_i k hk2
     simp only[Bool.and_eq_true]at h
     obtain⟨h1,h2,h3⟩:=h
     have h1:=Nat.eq_of_beq_eq_true h1
     have h2:=Nat.eq_of_beq_eq_true h2
     rw[hk]at hd1
     obtain rfl:=kR hd1
     obtain⟨d2,hd2,hd3⟩:=(hT.facts hte).desc
     rw[show(10000:Nat)=9999+1 from rfl,Instr.checkKey]
     simp only[Sem.run_bind,run_underlying hd,Result.andThen_ok]
     simp only[Std.Legacy.Range.forIn_eq_forIn_range',Std.Legacy.Range.size,Nat.sub_zero,Nat.add_one_sub_one,Nat.div_one]
     have each:∀ i∈List.range' 0 n,∃ z,(part el xs (i*te.size)).run P w=.ok (.int k z) w:=by
      intro i hi
      have hi:i<n:=by simpa using hi
      have hix:i<xs.toList.length:=by simpa[h2]using hi
      obtain⟨z,hz⟩:=GM h3 i xs.toList[i] (by simp[hi,h2])
      obtain⟨y,hy,hry⟩:=AZ (hT.facts hte) (w:=w) (ρ:=[]) (own:=fun _=>False) (off:=i*te.size) (cs:=xs.toList.map A.v) (xs:=xs.toList) (x:=.v (.int k z)) (by
       unfold nL
       rw[h1,Nat.mul_one,if_pos (by simp;omega),hk2]
       simp only[K.agg,Bool.false_eq_true,if_false,if_true]
       rw[List.getElem?_map,List.getElem?_eq_getElem hix,hz]
       rfl) (RL.exact _)
      rw[R]at hry
      subst hry
      exact⟨z,by simpa using hy⟩
     generalize List.range' 0 n=is at each
     induction is with
     |nil=>simp
     |cons j is ih =>
      obtain⟨z,hz⟩:=each j (by simp)
      have p2:=qH (P:=P) hd2 hd3 (x:=.int k z) (by rw[hk2];simp[fL]) b w 9998
      simp only[List.forIn_cons,Sem.run_bind,(hT.facts hte).run_sizeOf w,Result.andThen_ok,hz,p2,Sem.run_pure]
      exact ih (fun y hy=>each y (by simp[hy]))
    ·cases h
   ·cases h
  ·cases h
theorem aEC(hT:TOk P T){kt:TypeId}{tk:Ty}(ht:T kt=some tk)(hag:tk.k.agg=true){xs:List Value}{ρ:List Nat}{own:Nat→Prop}{w:World}:∀(es:List MapEntry) (cs:List A) (i:Nat) (r:Option (Nat×A)),pQ T kt (xs.map .v) cs i=some r→RL ρ own w cs (gE es) →
  (r=none∧∀ w',(Instr.findAsking kt (.agg xs.toArray) es i).run P w'=.ok none w')∨∃ k a e,r=some (i+k,a)∧(∀ w',(Instr.findAsking kt (.agg xs.toArray) es i).run P w'=.ok (some (i+k,e.val)) w')∧es[k]?=some e∧R ρ own w a e.val:=by
 intro es
 induction es with
 |nil =>
  intro cs i r h hr
  have hl:=hr.length
  cases cs with
  |nil =>
   simp only[pQ,Option.some.injEq]at h
   exact .inl ⟨h.symm,fun w'=>by simp[Instr.findAsking]⟩
  |cons _ _=>simp[gE]at hl
 |cons e0 es ih =>
  intro cs i r h hr
  rw[iF]at hr
  cases cs with
  |nil=>rw[RL]at hr;cases hr
  |cons z cs =>
   cases cs with
   |nil =>
    have hl:=hr.length
    simp at hl
   |cons a0 cs =>
    rw[RL]at hr
    obtain⟨_,_,h0,h1,hr⟩:=hr
    injection h0 with h01 h02
    subst h01
    subst h02
    rw[RL]at hr
    obtain⟨_,_,h0,h2,hr⟩:=hr
    injection h0 with h01 h02
    subst h01
    subst h02
    cases z with
    |v z =>
     cases z with
     |agg ys =>
      simp only[pQ]at h
      rw[R]at h1
      have heq:∀ b,eqT T 20 kt (xs.map .v) (ys.toList.map .v)=some b→∀ w',(Op.equal kt (.agg xs.toArray) e0.key).run P w'=.ok b w':=fun b hb w'=>by
       rw[h1]
       have:=aBX (w:=w') (ρ:=[]) (own:=fun _=>False) hT 20 Op.maxDepth kt tk (xs.map .v) (ys.toList.map .v) xs ys.toList (.agg xs.toArray) (.agg ys.toList.toArray) b (by decide) ht hb (RL.exact _) (RL.exact _) ⟨(fun _=>rfl),(fun h=>by rw[hag]at h;cases h)⟩ ⟨(fun _=>rfl),(fun h=>by rw[hag]at h;cases h)⟩
       simpa[Op.equal]using this
      split at h
      ·rename_i hb
       simp only[Option.some.injEq]at h
       subst h
       refine .inr ⟨0,a0,e0,rfl,fun w'=>?_,rfl,h2⟩
       simp[Instr.findAsking,heq _ hb]
      ·rename_i hb
       rcases ih cs (i+1) r h hr with⟨k1,k2⟩|⟨k,a,e,k1,k2,k3,k4⟩
       ·exact .inl ⟨k1,fun w'=>by simp[Instr.findAsking,heq _ hb,k2]⟩
       ·refine .inr ⟨k+1,a,e,by rw[k1];congr 2;omega,fun w'=>?_,by simpa using k3,k4⟩
        simp only[Instr.findAsking,Sem.run_bind,heq _ hb,Result.andThen_ok,k2,Bool.false_eq_true,if_false]
        congr 3
        omega
      ·cases h
     |_=>simp[pQ]at h
    |_=>simp[pQ]at h
theorem sM(hT:TOk P T){kt:TypeId}{tk:Ty}(ht:T kt=some tk){key:Value}{ρ:List Nat}{own:Nat→Prop}{w:World}{es:List MapEntry}{cs:List A}{r:Option (Nat×A)}(h:CX T kt tk key cs=some r)(hr:RL ρ own w cs (gE es)) :
  kY T tk key=true∧((r=none∧∀ w',(Instr.findKey kt key es).run P w'=.ok none w')∨∃ k a e,r=some (k,a)∧(∀ w',(Instr.findKey kt key es).run P w'=.ok (some (k,e.val)) w')∧es[k]?=some e∧R ρ own w a e.val∧(fL tk.k key=true→e.key=key)):=by
 obtain⟨d,hd,hd1⟩:=(hT.facts ht).desc
 unfold CX at h
 cases hk:fL tk.k key with
 |true =>
  rw[hk]at h
  simp only[cond_true]at h
  refine⟨by simp[kY,hk],?_⟩
  rcases zW hd1 hk es cs 0 r h hr with⟨h1,h2⟩|⟨k,a,e,h1,h2,h3,h4,h5⟩
  ·exact .inl ⟨h1,fun w'=>mK hd h2 w'⟩
  ·simp only[Nat.zero_add]at h1 h2
   exact .inr ⟨k,a,e,h1,fun w'=>mK hd h2 w',h3,h4,fun _=>h5⟩
 |false =>
  rw[hk]at h
  simp only[cond_false]at h
  cases hko:kY T tk key with
  |false=>simp[hko]at h
  |true =>
   rw[hko]at h
   simp only[cond_true]at h
   refine⟨rfl,?_⟩
   cases key with
   |agg xs =>
    simp only at h
    have hka:∃ n el,tk.k=.array n el:=by
     simp only[kY,hk,Bool.false_or]at hko
     split at hko
     ·rename_i n el _ hkk _
      exact⟨n,el,hkk⟩
     ·cases hko
    obtain⟨n,el,hka⟩:=hka
    rw[hka]at hd1
    obtain rfl:=kR hd1
    have hkey:∀ r',(∀ w',(Instr.findAsking kt (.agg xs) es).run P w'=.ok r' w')→∀ w',(Instr.findKey kt (.agg xs) es).run P w'=.ok r' w':=by
     intro r' hr' w'
     cases es with
     |nil =>
      have:=hr' w'
      simp only[Instr.findAsking,Sem.run_pure,Result.ok.injEq]at this
      simp[Instr.findKey,run_underlying hd,Instr.findNow,this.1]
     |cons e0 es=>simp[Instr.findKey,run_underlying hd,Instr.findNow,Instr.sameNow,hr' w']
    rcases aEC hT ht (by rw[hka];rfl) es cs 0 r h hr with⟨h1,h2⟩|⟨k,a,e,h1,h2,h3,h4⟩
    ·exact .inl ⟨h1,hkey none h2⟩
    ·simp only[Nat.zero_add]at h1 h2
     exact .inr ⟨k,a,e,h1,hkey _ h2,h3,h4,fun hk'=>by cases hk'⟩
   |_=>simp at h
theorem X7(hT:TOk P T)(ok:Ok T.gl c)(he:cF c e a){t:TypeId}{m k:Operand}{okk:Bool}(ho:o.op=.lookup t m k okk)(h:aN T e c.H (.lookup t m k okk)=some x):bV P c a o x:=by
 simp only[aN]at h
 have hx:execOp a.eval o=(do pure (.value (← Instr.lookup t (a.eval m) (a.eval k) okk)):Sem Next):=by simp only[execOp,ho]
 split at h
 ·rename_i ty mv key hty hm hk
  split at h
  ·rename_i kt et hkd
   split at h
   ·rename_i tk te es htk hte hes
    obtain⟨d,hd,hd1⟩:=(hT.facts hty).desc
    rw[hkd]at hd1
    obtain rfl:=DA hd1
    obtain⟨kv,hk1,hk2⟩:=Option.bind_eq_some_iff.1 hk
    have hkr:=QX hk2 (he.opnd hk1)
    rw[hkr]at hx
    -- the entries
    have hall:∃ ees:Array MapEntry,RL c.ρ c.own c.w es (gE ees.toList)∧(kY T tk key=true→∀(r:Option (Nat×Value)),(∀ w',(Instr.findKey kt key ees.toList).run P w'=.ok r w')→∀(v:Value) (bb:Bool),((match r with
      |some (_,v)=>pure (v,true)
      |none=>do pure (← zeroValue et,false):Sem (Value×Bool))).run P c.w=.ok (v,bb) c.w→(Instr.lookup t (a.eval m) key okk).run P c.w=.ok (if okk then .tuple #[v,.bool bb]else v) c.w):=by
     have fin:∀(r:Option (Nat×Value)) (v:Value) (bb:Bool) (rest:Sem Value),rest.run P c.w=(((match r with
       |some (_,v)=>pure (v,true)
       |none=>do pure (← zeroValue et,false):Sem (Value×Bool)) >>= fun p=>pure (if okk then .tuple #[p.1,.bool p.2]else p.1):Sem Value)).run P c.w→((match r with
       |some (_,v)=>pure (v,true)
       |none=>do pure (← zeroValue et,false):Sem (Value×Bool))).run P c.w=.ok (v,bb) c.w→rest.run P c.w=.ok (if okk then .tuple #[v,.bool bb]else v) c.w:=by
      intro r v bb rest h1 h2
      rw[h1,Sem.run_bind,h2]
      rfl
     rcases LM ok hes (he.opnd hm)with⟨rfl,h1⟩|⟨g,ees,n,h1,h2,h3⟩
     ·refine⟨#[],RL.nil,fun hko r hf v bb hrun=>fin r v bb _ ?_ hrun⟩
      have hchk:∀ b w,(Instr.checkKey b 10000 kt key).run P w=.ok () w:=fun b w=>mN hT htk hko b w
      rw[h1]
      simp only[Instr.lookup,Sem.run_bind,run_underlying hd,Result.andThen_ok,Sem.run_pure,hchk,hf]
      cases r with
      |none=>cases hz:Sem.run P (zeroValue et) c.w<;>simp[hz,Result.andThen]
      |some p=>simp
     ·refine⟨ees,h3,fun hko r hf v bb hrun=>fin r v bb _ ?_ hrun⟩
      have hchk:∀ b w,(Instr.checkKey b 10000 kt key).run P w=.ok () w:=fun b w=>mN hT htk hko b w
      rw[h1]
      simp only[Instr.lookup,Sem.run_bind,run_underlying hd,Result.andThen_ok,Sem.run_pure,MapKept.run_getObj_map h2,hchk,hf]
      cases r with
      |none=>cases hz:Sem.run P (zeroValue et) c.w<;>simp[hz,Result.andThen]
      |some p=>simp
    obtain⟨ees,hees,hrun⟩:=hall
    split at h
    ·rename_i jj z hf
     simp only[Option.some.injEq]at h
     subst h
     obtain⟨hko,hor⟩:=sM hT htk hf hees
     rcases hor with⟨h1,-⟩|⟨k1,a1,e1,h1,h2,h3,h4,-⟩
     ·cases h1
     ·simp only[Option.some.injEq,Prod.mk.injEq]at h1
      obtain⟨rfl,rfl⟩:=h1
      refine bV.mk hx (hrun hko _ h2 e1.val true (by simp)) ?_
      cases okk
      ·exact h4
      ·simp only[if_true]
       rw[R]
       exact⟨[e1.val,.bool true],rfl,RL.cons h4 (RL.cons (by rw[R]) RL.nil)⟩
    ·rename_i hf
     split at h
     ·rename_i z hz
      simp only[Option.some.injEq]at h
      subst h
      obtain⟨hko,hor⟩:=sM hT htk hf hees
      rcases hor with⟨-,h2⟩|⟨k1,a1,e1,h1,-⟩
      ·obtain⟨y,hy,hyr⟩:=MB (hT.facts hte) hz c.w (ρ:=c.ρ) (own:=c.own) (w0:=c.w)
       refine bV.mk hx (hrun hko _ h2 y false (by simp[hy])) ?_
       cases okk
       ·exact hyr
       ·simp only[if_true]
        rw[R]
        exact⟨[y,.bool false],rfl,RL.cons hyr (RL.cons (by rw[R]) RL.nil)⟩
      ·cases h1
     ·cases h
    ·cases h
   ·cases h
  ·cases h
 ·cases h
theorem JA(hT:TOk P T)(ok:Ok T.gl c)(he:cF c e a)(h:aN T e c.H o.op=some x):bV P c a o x:=by
 cases ho:o.op<;>rw[ho]at h
 case move y =>
  simp only[aN]at h
  exact⟨a.eval y,by simp[execOp,ho],he.opnd h⟩
 case assign y =>
  simp only[aN]at h
  exact⟨a.eval y,by simp[execOp,ho],he.opnd h⟩
 case pick=>exact aI7 he ho h
 case load=>exact aGg hT ok he ho h
 case nilCheck=>exact IO he ho h
 case binOp=>exact aAc hT he ho h
 case unOp=>exact aLl he ho h
 case convert=>exact NC hT ok he ho h
 case build=>exact aDD hT he ho h
 case fieldAddr=>exact FC hT he ho h
 case field=>exact aCD hT he ho h
 case indexAddr=>exact ER hT he ho h
 case index=>exact aDc hT he ho h
 case slice=>exact aCR hT ok he ho h
 case extract=>exact PQ he ho h
 case makeFunc=>exact IJ he ho h
 case lookup=>exact X7 hT ok he ho h
 case call=>exact aIc hT he ho h
 all_goals(simp[aN]at h;done)
end
end Go.Proofs.YtpdphobnchajbaaGreatDoor.Ev
namespace Go.Proofs.YtpdphobnchajbaaGreatDoor.Ev
open Go Go.RowKit
variable{Gd:GD}
variable{P:Program}{T:Tb}
theorem vQ{c:Cfg}(ok:Ok Gd c){e:TypeId}{cs:List A}{wh:Bool}{cur:Array Value}{xs:List Value}{w':World}(hw:w'=c.w.alloc (.cells cur e)∨w'=c.w.drew.alloc (.cells cur e))(hr:RL c.ρ c.own c.w cs xs)(hp:xs <+: cur.toList)(hwh:wh=true→cur.size=cs.length) :
  ∃ c',c'.H=c.H++[some ⟨e,cs,wh⟩]∧c'.w=w'∧To c c'∧Ok Gd c'∧c'.ρ[c.H.length]?=some c.w.heap.size∧c'.w.heap[c.w.heap.size]?=some (.cells cur e):=by
 have hheap:w'.heap=c.w.heap.push (.cells cur e):=by rcases hw with rfl|rfl<;>rfl
 have hold:∀ g,g<c.w.heap.size→w'.heap[g]?=c.w.heap[g]?:=fun g hg=>by
  rw[hheap,Array.getElem?_push]
  simp[Nat.ne_of_lt hg]
 have hnew:w'.heap[c.w.heap.size]?=some (.cells cur e):=by rw[hheap];simp
 let c':Cfg:=⟨c.ρ++[c.w.heap.size],fun g=>c.own g∨g=c.w.heap.size,c.H++[some ⟨e,cs,wh⟩],w'⟩
 have hlen:=ok.len
 have live:∀(b:Nat) (k:Blk) (g:Nat),c'.H[b]?=some (some k)→c'.ρ[b]?=some g→(c.H[b]?=some (some k)∧c.ρ[b]?=some g)∨(b=c.H.length∧k=⟨e,cs,wh⟩∧g=c.w.heap.size):=by
  intro b k g hb hg
  rcases Nat.lt_or_ge b c.H.length with hlt|hge
  ·left
   exact⟨by simpa[c',List.getElem?_append_left hlt]using hb,by simpa[c',List.getElem?_append_left (by omega:b<c.ρ.length)]using hg⟩
  ·right
   have hb':b=c.H.length:=by
    have:=(List.getElem?_eq_some_iff.1 hb).1
    simp[c']at this
    omega
   subst hb'
   refine⟨rfl,?_,?_⟩
   ·simpa[c',eq_comm]using hb
   ·simp only[c']at hg
    rw[← hlen,List.getElem?_append_right (Nat.le_refl _)]at hg
    simpa[eq_comm]using hg
 have hto:To c c':=by
  refine⟨List.prefix_append _ _,by simp[c',hheap],by rcases hw with rfl|rfl<;>rfl,by rcases hw with rfl|rfl<;>rfl,by rcases hw with rfl|rfl<;>rfl,?_,fun g hg _=>hold g hg,fun g cur1 e1 fz1 h1=>⟨cur1,fz1,?_,rfl⟩,fun g es n h1=>⟨es,n,(hold g (Array.getElem?_eq_some_iff.1 h1).1).trans h1⟩,fun g o h1 _=>⟨o,(hold g (Array.getElem?_eq_some_iff.1 h1).1).trans h1,rfl⟩,?_⟩
  ·rintro g hg ⟨b,k,hb,hbg⟩
   rcases live b k g hb hbg with⟨h1,h2⟩|⟨-,-,h3⟩
   ·exact⟨b,k,h1,h2⟩
   ·omega
  ·have hg:=(Array.getElem?_eq_some_iff.1 h1).1
   exact(hold g hg).trans h1
  ·intro g hg
   simp only[c']
   constructor
   ·rintro(h|h)
    ·exact h
    ·omega
   ·exact fun h=>.inl (.inl h)
 refine⟨c',rfl,rfl,hto,?_,?_,hnew⟩
 ·refine⟨by simp[c',hlen],?_,?_,?_,?_,hto.glob ok⟩
  ·rintro g (h|h)
   ·have:=ok.lt g h
    simp[c',hheap]
    omega
   ·simp[c',hheap,h]
  ·rintro g ⟨b,k,hb,hbg⟩
   rcases live b k g hb hbg with⟨h1,h2⟩|⟨-,-,h3⟩
   ·exact .inl (ok.img g ⟨b,k,h1,h2⟩)
   ·exact .inr h3
  ·intro b e1 cs1 wh1 g hb hg
   rcases live b _ g hb hg with⟨h1,h2⟩|⟨-,h2,h3⟩
   ·exact(ok.blk b e1 cs1 wh1 g h1 h2).keep (hto.keeps ok) (hold g (ok.lt g (ok.img g ⟨b,_,h1,h2⟩)))
   ·simp only[Blk.mk.injEq]at h2
    obtain⟨rfl,rfl,rfl⟩:=h2
    subst h3
    exact .inl ⟨cur,xs,hnew,hr.to hto ok,hp,hwh⟩
  ·intro b b' k k' g hb hb' hg hg'
   rcases live b k g hb hg with⟨h1,h2⟩|⟨h1,-,h3⟩<;>rcases live b' k' g hb' hg' with⟨h4,h5⟩|⟨h4,-,h6⟩
   ·exact ok.inj b b' k k' g h1 h4 h2 h5
   ·have:=ok.lt g (ok.img g ⟨b,k,h1,h2⟩)
    omega
   ·have:=ok.lt g (ok.img g ⟨b',k',h4,h5⟩)
    omega
   ·omega
 ·simp only[c']
  rw[← hlen]
  simp
theorem aZg{c:Cfg}(ok:Ok Gd c){e:TypeId}{cs:List A}{wh:Bool}{es:Array MapEntry}{n:Nat}{w':World}(hw:w'=c.w.alloc (.map es n)∨w'=c.w.drew.alloc (.map es n))(hr:RL c.ρ c.own c.w cs (gE es.toList))(hbn:BC es n) :
  ∃ c',c'.H=c.H++[some ⟨e,cs,wh⟩]∧c'.w=w'∧To c c'∧Ok Gd c'∧c'.ρ[c.H.length]?=some c.w.heap.size∧c'.w.heap[c.w.heap.size]?=some (.map es n):=by
 have hheap:w'.heap=c.w.heap.push (.map es n):=by rcases hw with rfl|rfl<;>rfl
 have hold:∀ g,g<c.w.heap.size→w'.heap[g]?=c.w.heap[g]?:=fun g hg=>by
  rw[hheap,Array.getElem?_push]
  simp[Nat.ne_of_lt hg]
 have hnew:w'.heap[c.w.heap.size]?=some (.map es n):=by rw[hheap];simp
 let c':Cfg:=⟨c.ρ++[c.w.heap.size],fun g=>c.own g∨g=c.w.heap.size,c.H++[some ⟨e,cs,wh⟩],w'⟩
 have hlen:=ok.len
 have live:∀(b:Nat) (k:Blk) (g:Nat),c'.H[b]?=some (some k)→c'.ρ[b]?=some g→(c.H[b]?=some (some k)∧c.ρ[b]?=some g)∨(b=c.H.length∧k=⟨e,cs,wh⟩∧g=c.w.heap.size):=by
  intro b k g hb hg
  rcases Nat.lt_or_ge b c.H.length with hlt|hge
  ·left
   exact⟨by simpa[c',List.getElem?_append_left hlt]using hb,by simpa[c',List.getElem?_append_left (by omega:b<c.ρ.length)]using hg⟩
  ·right
   have hb':b=c.H.length:=by
    have:=(List.getElem?_eq_some_iff.1 hb).1
    simp[c']at this
    omega
   subst hb'
   refine⟨rfl,?_,?_⟩
   ·simpa[c',eq_comm]using hb
   ·simp only[c']at hg
    rw[← hlen,List.getElem?_append_right (Nat.le_refl _)]at hg
    simpa[eq_comm]using hg
 have hto:To c c':=by
  refine⟨List.prefix_append _ _,by simp[c',hheap],by rcases hw with rfl|rfl<;>rfl,by rcases hw with rfl|rfl<;>rfl,by rcases hw with rfl|rfl<;>rfl,?_,fun g hg _=>hold g hg,fun g cur1 e1 fz1 h1=>⟨cur1,fz1,?_,rfl⟩,fun g es1 n1 h1=>⟨es1,n1,(hold g (Array.getElem?_eq_some_iff.1 h1).1).trans h1⟩,fun g o h1 _=>⟨o,(hold g (Array.getElem?_eq_some_iff.1 h1).1).trans h1,rfl⟩,?_⟩
  ·rintro g hg ⟨b,k,hb,hbg⟩
   rcases live b k g hb hbg with⟨h1,h2⟩|⟨-,-,h3⟩
   ·exact⟨b,k,h1,h2⟩
   ·omega
  ·have hg:=(Array.getElem?_eq_some_iff.1 h1).1
   exact(hold g hg).trans h1
  ·intro g hg
   simp only[c']
   constructor
   ·rintro(h|h)
    ·exact h
    ·omega
   ·exact fun h=>.inl (.inl h)
 refine⟨c',rfl,rfl,hto,?_,?_,hnew⟩
 ·refine⟨by simp[c',hlen],?_,?_,?_,?_,hto.glob ok⟩
  ·rintro g (h|h)
   ·have:=ok.lt g h
    simp[c',hheap]
    omega
   ·simp[c',hheap,h]
  ·rintro g ⟨b,k,hb,hbg⟩
   rcases live b k g hb hbg with⟨h1,h2⟩|⟨-,-,h3⟩
   ·exact .inl (ok.img g ⟨b,k,h1,h2⟩)
   ·exact .inr h3
  ·intro b e1 cs1 wh1 g hb hg
   rcases live b _ g hb hg with⟨h1,h2⟩|⟨-,h2,h3⟩
   ·exact(ok.blk b e1 cs1 wh1 g h1 h2).keep (hto.keeps ok) (hold g (ok.lt g (ok.img g ⟨b,_,h1,h2⟩)))
   ·simp only[Blk.mk.injEq]at h2
    obtain⟨rfl,rfl,rfl⟩:=h2
    subst h3
    exact .inr (.inl ⟨es,n,hnew,hr.to hto ok,hbn⟩)
  ·intro b b' k k' g hb hb' hg hg'
   rcases live b k g hb hg with⟨h1,h2⟩|⟨h1,-,h3⟩<;>rcases live b' k' g hb' hg' with⟨h4,h5⟩|⟨h4,-,h6⟩
   ·exact ok.inj b b' k k' g h1 h4 h2 h5
   ·have:=ok.lt g (ok.img g ⟨b,k,h1,h2⟩)
    omega
   ·have:=ok.lt g (ok.img g ⟨b',k',h4,h5⟩)
    omega
   ·omega
 ·simp only[c']
  rw[← hlen]
  simp
theorem OU{c:Cfg}(ok:Ok Gd c){b g:Nat}{k:Blk}{cs':List A}{cur cur':Array Value}{xs':List Value}(hb:c.H[b]?=some (some k))(hg:c.ρ[b]?=some g)(hcur:c.w.heap[g]?=some (.cells cur k.e (0,0)))
  (hr:RL c.ρ c.own c.w cs' xs') (hp:xs' <+: cur'.toList) (hs:cur'.size=cur.size) (hwh:k.whole=true→cur'.size=cs'.length) :
  ∃ c',c'.H=c.H.set b (some ⟨k.e,cs',k.whole⟩)∧c'.w=c.w.setRow g cur'∧To c c'∧Ok Gd c'∧c'.ρ=c.ρ:=by
 let c':Cfg:=⟨c.ρ,c.own,c.H.set b (some ⟨k.e,cs',k.whole⟩),c.w.setRow g cur'⟩
 have hbl:=(List.getElem?_eq_some_iff.1 hb).1
 have live:∀(b1:Nat) (k1:Blk) (g1:Nat),c'.H[b1]?=some (some k1)→c'.ρ[b1]?=some g1→(b1≠b∧c.H[b1]?=some (some k1)∧c.ρ[b1]?=some g1)∨(b1=b∧k1=⟨k.e,cs',k.whole⟩∧g1=g):=by
  intro b1 k1 g1 h1 h2
  by_cases hbb:b1=b
  ·subst hbb
   right
   have h3:c.ρ[b1]?=some g1:=h2
   rw[hg]at h3
   simp only[c',List.getElem?_set_self hbl,Option.some.injEq]at h1
   exact⟨rfl,h1.symm,(Option.some.inj h3).symm⟩
  ·left
   refine⟨hbb,?_,h2⟩
   simpa[c',List.getElem?_set_ne (Ne.symm hbb)]using h1
 have himg:img c.ρ c.H g:=⟨b,k,hb,hg⟩
 have hto:To c c':=by
  refine⟨List.prefix_rfl,by simp[c'],rfl,rfl,rfl,?_,?_,?_,fun g1 es n h1=>⟨es,n,(setRow_other c.w g g1 cur' (by rintro rfl;rw[hcur]at h1;cases h1)).trans h1⟩,fun g1 o h1 h0=>⟨o,(setRow_other c.w g g1 cur' (by rintro rfl;rw[hcur]at h1;cases h1;exact h0 rfl)).trans h1,rfl⟩,fun _ _=>⟨id,.inl⟩⟩
  ·rintro g1 hg1 ⟨b1,k1,h1,h2⟩
   rcases live b1 k1 g1 h1 h2 with⟨-,h3,h4⟩|⟨-,-,h3⟩
   ·exact⟨b1,k1,h3,h4⟩
   ·rw[h3];exact himg
  ·intro g1 hg1 hn
   exact setRow_other c.w g g1 cur' fun h=>hn (h▸himg)
  ·intro g1 cur1 e1 fz1 h1
   by_cases hgg:g1=g
   ·subst hgg
    rw[hcur]at h1
    simp only[Option.some.injEq,Obj.cells.injEq]at h1
    obtain⟨rfl,rfl,-⟩:=h1
    exact⟨cur',(0,0),setRow_heap c.w g1 cur cur' k.e (0,0) hcur,hs⟩
   ·exact⟨cur1,fz1,(setRow_other c.w g g1 cur' hgg).trans h1,rfl⟩
 refine⟨c',rfl,rfl,hto,?_,rfl⟩
 refine⟨by simp[c',ok.len],fun g1 h1=>by simpa[c']using ok.lt g1 h1,?_,?_,?_,hto.glob ok⟩
 ·rintro g1 ⟨b1,k1,h1,h2⟩
  rcases live b1 k1 g1 h1 h2 with⟨-,h3,h4⟩|⟨-,-,h3⟩
  ·exact ok.img g1 ⟨b1,k1,h3,h4⟩
  ·rw[h3];exact ok.img g himg
 ·intro b1 e1 cs1 wh1 g1 h1 h2
  rcases live b1 _ g1 h1 h2 with⟨hne,h3,h4⟩|⟨-,h3,h4⟩
  ·have hgg:g1≠g:=fun h=>hne (ok.inj b1 b _ k g1 h3 hb h4 (h▸hg))
   exact(ok.blk b1 e1 cs1 wh1 g1 h3 h4).keep (hto.keeps ok) (setRow_other c.w g g1 cur' hgg)
  ·simp only[Blk.mk.injEq]at h3
   obtain⟨rfl,rfl,rfl⟩:=h3
   subst h4
   exact .inl ⟨cur',xs',setRow_heap c.w g1 cur cur' k.e (0,0) hcur,hr.to hto ok,hp,hwh⟩
 ·intro b1 b2 k1 k2 g1 h1 h2 h3 h4
  rcases live b1 k1 g1 h1 h3 with⟨hne,h5,h6⟩|⟨h5,-,h6⟩<;>rcases live b2 k2 g1 h2 h4 with⟨hne',h7,h8⟩|⟨h7,-,h8⟩
  ·exact ok.inj b1 b2 k1 k2 g1 h5 h7 h6 h8
  ·subst h8
   exact absurd (ok.inj b1 b k1 k g1 h5 hb h6 hg) hne
  ·subst h6
   exact absurd (ok.inj b2 b k2 k g1 h7 hb h8 hg) hne'
  ·omega
theorem zA{c:Cfg}(ok:Ok Gd c){b g:Nat}{k:Blk}{cs':List A}{es es':Array MapEntry}{n n':Nat}(hb:c.H[b]?=some (some k))(hg:c.ρ[b]?=some g)(hcur:c.w.heap[g]?=some (.map es n))
  (hr:RL c.ρ c.own c.w cs' (gE es'.toList)) (hbn:BC es' n') :
  ∃ c',c'.H=c.H.set b (some ⟨k.e,cs',k.whole⟩)∧c'.w={ c.w with heap:=c.w.heap.setIfInBounds g (.map es' n') }∧To c c'∧Ok Gd c'∧c'.ρ=c.ρ:=by
 let c':Cfg:=⟨c.ρ,c.own,c.H.set b (some ⟨k.e,cs',k.whole⟩),{ c.w with heap:=c.w.heap.setIfInBounds g (.map es' n') }⟩
 have hbl:=(List.getElem?_eq_some_iff.1 hb).1
 have live:∀(b1:Nat) (k1:Blk) (g1:Nat),c'.H[b1]?=some (some k1)→c'.ρ[b1]?=some g1→(b1≠b∧c.H[b1]?=some (some k1)∧c.ρ[b1]?=some g1)∨(b1=b∧k1=⟨k.e,cs',k.whole⟩∧g1=g):=by
  intro b1 k1 g1 h1 h2
  by_cases hbb:b1=b
  ·subst hbb
   right
   have h3:c.ρ[b1]?=some g1:=h2
   rw[hg]at h3
   simp only[c',List.getElem?_set_self hbl,Option.some.injEq]at h1
   exact⟨rfl,h1.symm,(Option.some.inj h3).symm⟩
  ·left
   refine⟨hbb,?_,h2⟩
   simpa[c',List.getElem?_set_ne (Ne.symm hbb)]using h1
 have himg:img c.ρ c.H g:=⟨b,k,hb,hg⟩
 have hother:∀ g1,g1≠g→(c.w.heap.setIfInBounds g (.map es' n'))[g1]?=c.w.heap[g1]?:=fun g1 hg1=>Array.getElem?_setIfInBounds_ne (Ne.symm hg1)
 have hself:(c.w.heap.setIfInBounds g (.map es' n'))[g]?=some (.map es' n'):=Array.getElem?_setIfInBounds_self_of_lt (Array.getElem?_eq_some_iff.1 hcur).1
 have hto:To c c':=by
  refine⟨List.prefix_rfl,by simp[c'],rfl,rfl,rfl,?_,?_,fun g1 cur1 e1 fz1 h1=>⟨cur1,fz1,(hother g1 (by rintro rfl;rw[hcur]at h1;cases h1)).trans h1,rfl⟩,?_,fun g1 o h1 h0=>⟨o,(hother g1 (by rintro rfl;rw[hcur]at h1;cases h1;exact h0 rfl)).trans h1,rfl⟩,fun _ _=>⟨id,.inl⟩⟩
  ·rintro g1 hg1 ⟨b1,k1,h1,h2⟩
   rcases live b1 k1 g1 h1 h2 with⟨-,h3,h4⟩|⟨-,-,h3⟩
   ·exact⟨b1,k1,h3,h4⟩
   ·rw[h3];exact himg
  ·intro g1 hg1 hn
   exact hother g1 fun h=>hn (h▸himg)
  ·intro g1 es1 n1 h1
   by_cases hgg:g1=g
   ·subst hgg
    exact⟨es',n',hself⟩
   ·exact⟨es1,n1,(hother g1 hgg).trans h1⟩
 refine⟨c',rfl,rfl,hto,?_,rfl⟩
 refine⟨by simp[c',ok.len],fun g1 h1=>by simpa[c']using ok.lt g1 h1,?_,?_,?_,hto.glob ok⟩
 ·rintro g1 ⟨b1,k1,h1,h2⟩
  rcases live b1 k1 g1 h1 h2 with⟨-,h3,h4⟩|⟨-,-,h3⟩
  ·exact ok.img g1 ⟨b1,k1,h3,h4⟩
  ·rw[h3];exact ok.img g himg
 ·intro b1 e1 cs1 wh1 g1 h1 h2
  rcases live b1 _ g1 h1 h2 with⟨hne,h3,h4⟩|⟨-,h3,h4⟩
  ·have hgg:g1≠g:=fun h=>hne (ok.inj b1 b _ k g1 h3 hb h4 (h▸hg))
   exact(ok.blk b1 e1 cs1 wh1 g1 h3 h4).keep (hto.keeps ok) (hother g1 hgg)
  ·simp only[Blk.mk.injEq]at h3
   obtain⟨rfl,rfl,rfl⟩:=h3
   subst h4
   exact .inr (.inl ⟨es',n',hself,hr.to hto ok,hbn⟩)
 ·intro b1 b2 k1 k2 g1 h1 h2 h3 h4
  rcases live b1 k1 g1 h1 h3 with⟨hne,h5,h6⟩|⟨h5,-,h6⟩<;>rcases live b2 k2 g1 h2 h4 with⟨hne',h7,h8⟩|⟨h7,-,h8⟩
  ·exact ok.inj b1 b2 k1 k2 g1 h5 h7 h6 h8
  ·subst h8
   exact absurd (ok.inj b1 b k1 k g1 h5 hb h6 hg) hne
  ·subst h6
   exact absurd (ok.inj b2 b k2 k g1 h7 hb h8 hg) hne'
  ·omega
theorem DN{c:Cfg}(ok:Ok Gd c)(b:Nat):To c ⟨c.ρ,c.own,c.H.set b none,c.w⟩∧Ok Gd ⟨c.ρ,c.own,c.H.set b none,c.w⟩:=by
 have live:∀(b1:Nat) (k1:Blk),(c.H.set b none)[b1]?=some (some k1)→c.H[b1]?=some (some k1):=by
  intro b1 k1 h1
  by_cases hbb:b1=b
  ·subst hbb
   rw[List.getElem?_set]at h1
   split at h1
   ·split at h1
    ·cases h1
    ·cases h1
   ·exact h1
  ·simpa[List.getElem?_set_ne (Ne.symm hbb)]using h1
 have hto:To c ⟨c.ρ,c.own,c.H.set b none,c.w⟩ :=
  ⟨List.prefix_rfl,Nat.le_refl _,rfl,rfl,rfl,fun g _ ⟨b1,k1,h1,h2⟩=>⟨b1,k1,live b1 k1 h1,h2⟩,fun _ _ _=>rfl,fun _ cur _ fz h=>⟨cur,fz,h,rfl⟩,fun _ es n h=>⟨es,n,h⟩,fun _ o h _=>⟨o,h,rfl⟩,fun _ _=>⟨id,.inl⟩⟩
 refine⟨hto,⟨by simp[ok.len],ok.lt,fun g ⟨b1,k1,h1,h2⟩=>ok.img g ⟨b1,k1,live b1 k1 h1,h2⟩,fun b1 e1 cs1 wh1 g1 h1 h2=>?_,fun b1 b2 k1 k2 g1 h1 h2 h3 h4=>ok.inj b1 b2 k1 k2 g1 (live b1 k1 h1) (live b2 k2 h2) h3 h4,hto.glob ok⟩⟩
 exact(ok.blk b1 e1 cs1 wh1 g1 (live b1 _ h1) h2).keep (hto.keeps ok) rfl
theorem Y4{c:Cfg}(ok:Ok Gd c){b g:Nat}{k:Blk}(hb:c.H[b]?=some (some k))(hg:c.ρ[b]?=some g){cur:Array Value}{e:TypeId}{fz:Nat×Nat}(hcur:c.w.heap[g]?=some (.cells cur e fz))(off n:Nat)(hn:n≠0) :
  To c ⟨c.ρ,c.own,c.H.set b none,c.w.freeze ⟨g,off,none⟩ n⟩∧Ok Gd ⟨c.ρ,c.own,c.H.set b none,c.w.freeze ⟨g,off,none⟩ n⟩:=by
 obtain⟨t1,o1⟩:=DN ok b
 have hw:(c.w.freeze ⟨g,off,none⟩ n).heap=c.w.heap.modify g fun
   |.cells c elem (lo,hi)=>.cells c elem (if lo==hi then(off,off+n)else(min lo off,max hi (off+n)))
   |o=>o:=by
  unfold World.freeze
  rw[if_neg hn]
  rfl
 have hf:(c.w.freeze ⟨g,off,none⟩ n).os=c.w.os∧(c.w.freeze ⟨g,off,none⟩ n).tape=c.w.tape∧(c.w.freeze ⟨g,off,none⟩ n).output=c.w.output:=by
  unfold World.freeze
  rw[if_neg hn]
  exact⟨rfl,rfl,rfl⟩
 have hsz:(c.w.freeze ⟨g,off,none⟩ n).heap.size=c.w.heap.size:=by rw[hw];simp
 have hother:∀ g1,g1≠g→(c.w.freeze ⟨g,off,none⟩ n).heap[g1]?=c.w.heap[g1]?:=fun g1 h1=>by
  rw[hw,Array.getElem?_modify,if_neg (Ne.symm h1)]
 have hself:∃ fz',(c.w.freeze ⟨g,off,none⟩ n).heap[g]?=some (.cells cur e fz'):=by
  rw[hw,Array.getElem?_modify,if_pos rfl,hcur]
  exact⟨_,rfl⟩
 obtain⟨fz',hself⟩:=hself
 have himg:img c.ρ c.H g:=⟨b,k,hb,hg⟩
 have hto:To ⟨c.ρ,c.own,c.H,c.w⟩ ⟨c.ρ,c.own,c.H.set b none,c.w.freeze ⟨g,off,none⟩ n⟩:=by
  refine⟨List.prefix_rfl,Nat.le_of_eq hsz.symm,hf.1,hf.2.1,hf.2.2,t1.img,?_,?_,?_,?_,fun _ _=>⟨id,.inl⟩⟩
  ·intro g1 hg1 hn1
   exact hother g1 fun h=>hn1 (h▸himg)
  ·intro g1 cur1 e1 fz1 h1
   by_cases hgg:g1=g
   ·subst hgg
    have h1:c.w.heap[g1]?=some (.cells cur1 e1 fz1):=h1
    rw[hcur]at h1
    simp only[Option.some.injEq,Obj.cells.injEq]at h1
    obtain⟨rfl,rfl,-⟩:=h1
    exact⟨cur,fz',hself,rfl⟩
   ·exact⟨cur1,fz1,(hother g1 hgg).trans h1,rfl⟩
  ·intro g1 es n1 h1
   refine⟨es,n1,(hother g1 ?_).trans h1⟩
   rintro rfl
   have h1:c.w.heap[g1]?=some (.map es n1):=h1
   rw[hcur]at h1
   cases h1
  ·intro g1 o h1 h0
   refine⟨o,(hother g1 ?_).trans h1,rfl⟩
   rintro rfl
   have h1:c.w.heap[g1]?=some o:=h1
   rw[hcur]at h1
   cases h1
   exact h0 rfl
 refine⟨hto,⟨by simp[ok.len],fun g1 h1=>by rw[hsz];exact ok.lt g1 h1,o1.img,fun b1 e1 cs1 wh1 g1 h1 h2=>?_,o1.inj,hto.glob ok⟩⟩
 have hne:b1≠b:=by
  rintro rfl
  have hlt:=(List.getElem?_eq_some_iff.1 hb).1
  rw[List.getElem?_set_self hlt]at h1
  cases h1
 have h3:c.H[b1]?=some (some ⟨e1,cs1,wh1⟩):=by simpa[List.getElem?_set_ne (Ne.symm hne)]using h1
 exact(ok.blk b1 e1 cs1 wh1 g1 h3 h2).keep (hto.keeps ok) (hother g1 fun h=>hne (ok.inj b1 b _ k g1 h3 hb h2 (h▸hg)))
theorem aJF{c:Cfg}(ok:Ok Gd c){b g:Nat}{k:Blk}{cs':List A}{cur cur':Array Value}{xs':List Value}(hb:c.H[b]?=some (some k))(hg:c.ρ[b]?=some g)(hcur:c.w.heap[g]?=some (.cells cur k.e (0,0)))
  (hr:RL c.ρ c.own c.w cs' xs') (hp:xs' <+: cur'.toList) (hs:cur'.size=cur.size) :
  ∃ c',c'.H=c.H.set b none++[some ⟨k.e,cs',false⟩]∧c'.w=c.w.setRow g cur'∧To c c'∧Ok Gd c'∧c'.ρ[c.H.length]?=some g:=by
 let c':Cfg:=⟨c.ρ++[g],c.own,c.H.set b none++[some ⟨k.e,cs',false⟩],c.w.setRow g cur'⟩
 have hlen:=ok.len
 have live:∀(b1:Nat) (k1:Blk) (g1:Nat),c'.H[b1]?=some (some k1)→c'.ρ[b1]?=some g1→(b1≠b∧b1<c.H.length∧c.H[b1]?=some (some k1)∧c.ρ[b1]?=some g1)∨(b1=c.H.length∧k1=⟨k.e,cs',false⟩∧g1=g):=by
  intro b1 k1 g1 h1 h2
  rcases Nat.lt_or_ge b1 c.H.length with hlt|hge
  ·left
   have h1':(c.H.set b none)[b1]?=some (some k1):=by simpa[c',List.getElem?_append_left (by simpa using hlt:b1<(c.H.set b none).length)]using h1
   have hbb:b1≠b:=by
    rintro rfl
    simp[List.getElem?_set_self hlt]at h1'
   exact⟨hbb,hlt,by simpa[List.getElem?_set_ne (Ne.symm hbb)]using h1',by simpa[c',List.getElem?_append_left (by omega:b1<c.ρ.length)]using h2⟩
  ·right
   have hb':b1=c.H.length:=by
    have:=(List.getElem?_eq_some_iff.1 h1).1
    simp[c']at this
    omega
   subst hb'
   refine⟨rfl,?_,?_⟩
   ·simp only[c']at h1
    rw[List.getElem?_append_right (by simp)]at h1
    simpa[eq_comm]using h1
   ·simp only[c']at h2
    rw[← hlen,List.getElem?_append_right (Nat.le_refl _)]at h2
    simpa[eq_comm]using h2
 have himg:img c.ρ c.H g:=⟨b,k,hb,hg⟩
 have hto:To c c':=by
  refine⟨List.prefix_append _ _,by simp[c'],rfl,rfl,rfl,?_,?_,?_,fun g1 es n h1=>⟨es,n,(setRow_other c.w g g1 cur' (by rintro rfl;rw[hcur]at h1;cases h1)).trans h1⟩,fun g1 o h1 h0=>⟨o,(setRow_other c.w g g1 cur' (by rintro rfl;rw[hcur]at h1;cases h1;exact h0 rfl)).trans h1,rfl⟩,fun _ _=>⟨id,.inl⟩⟩
  ·rintro g1 hg1 ⟨b1,k1,h1,h2⟩
   rcases live b1 k1 g1 h1 h2 with⟨-,-,h3,h4⟩|⟨-,-,h3⟩
   ·exact⟨b1,k1,h3,h4⟩
   ·rw[h3];exact himg
  ·intro g1 hg1 hn
   exact setRow_other c.w g g1 cur' fun h=>hn (h▸himg)
  ·intro g1 cur1 e1 fz1 h1
   by_cases hgg:g1=g
   ·subst hgg
    rw[hcur]at h1
    simp only[Option.some.injEq,Obj.cells.injEq]at h1
    obtain⟨rfl,rfl,-⟩:=h1
    exact⟨cur',(0,0),setRow_heap c.w g1 cur cur' k.e (0,0) hcur,hs⟩
   ·exact⟨cur1,fz1,(setRow_other c.w g g1 cur' hgg).trans h1,rfl⟩
 refine⟨c',rfl,rfl,hto,?_,?_⟩
 ·refine⟨by simp[c',ok.len],fun g1 h1=>by simpa[c']using ok.lt g1 h1,?_,?_,?_,hto.glob ok⟩
  ·rintro g1 ⟨b1,k1,h1,h2⟩
   rcases live b1 k1 g1 h1 h2 with⟨-,-,h3,h4⟩|⟨-,-,h3⟩
   ·exact ok.img g1 ⟨b1,k1,h3,h4⟩
   ·rw[h3];exact ok.img g himg
  ·intro b1 e1 cs1 wh1 g1 h1 h2
   rcases live b1 _ g1 h1 h2 with⟨hne,-,h3,h4⟩|⟨-,h3,h4⟩
   ·have hgg:g1≠g:=fun h=>hne (ok.inj b1 b _ k g1 h3 hb h4 (h▸hg))
    exact(ok.blk b1 e1 cs1 wh1 g1 h3 h4).keep (hto.keeps ok) (setRow_other c.w g g1 cur' hgg)
   ·simp only[Blk.mk.injEq]at h3
    obtain⟨rfl,rfl,rfl⟩:=h3
    subst h4
    exact .inl ⟨cur',xs',setRow_heap c.w g1 cur cur' k.e (0,0) hcur,hr.to hto ok,hp,fun h=>by cases h⟩
  ·intro b1 b2 k1 k2 g1 h1 h2 h3 h4
   rcases live b1 k1 g1 h1 h3 with⟨hne,-,h5,h6⟩|⟨h5,-,h6⟩<;>rcases live b2 k2 g1 h2 h4 with⟨hne',-,h7,h8⟩|⟨h7,-,h8⟩
   ·exact ok.inj b1 b2 k1 k2 g1 h5 h7 h6 h8
   ·subst h8
    exact absurd (ok.inj b1 b k1 k g1 h5 hb h6 hg) hne
   ·subst h6
    exact absurd (ok.inj b2 b k2 k g1 h7 hb h8 hg) hne'
   ·omega
 ·simp only[c']
  rw[← hlen]
  simp
theorem BI{w:World}{o:Obj}{g:Nat}(hg:g<w.heap.size):(w.alloc o).heap[g]?=w.heap[g]?:=by
 show(w.heap.push o)[g]?=w.heap[g]?
 rw[Array.getElem?_push]
 simp[Nat.ne_of_lt hg]
theorem aOn{c:Cfg}(ok:Ok Gd c){o:Obj}{cs:List A}(hB:∀ ρ' own' w',jN c.ρ c.own c.w ρ' own' w'→w'.heap[c.w.heap.size]?=some o→W9 Gd ρ' own' w' 0 cs true c.w.heap.size) :
  ∃ c',c'.H=c.H++[some ⟨0,cs,true⟩]∧c'.w=c.w.alloc o∧To c c'∧Ok Gd c'∧c'.ρ[c.H.length]?=some c.w.heap.size∧c'.w.heap[c.w.heap.size]?=some o:=by
 have hsize:(c.w.alloc o).heap.size=c.w.heap.size+1:=World.size_alloc ..
 have hold:∀ g,g<c.w.heap.size→(c.w.alloc o).heap[g]?=c.w.heap[g]?:=fun g hg=>BI hg
 have hnew:(c.w.alloc o).heap[c.w.heap.size]?=some o:=World.alloc_heap_new ..
 let c':Cfg:=⟨c.ρ++[c.w.heap.size],fun g=>c.own g∨g=c.w.heap.size,c.H++[some ⟨0,cs,true⟩],c.w.alloc o⟩
 have hlen:=ok.len
 have live:∀(b:Nat) (k:Blk) (g:Nat),c'.H[b]?=some (some k)→c'.ρ[b]?=some g→(c.H[b]?=some (some k)∧c.ρ[b]?=some g)∨(b=c.H.length∧k=⟨0,cs,true⟩∧g=c.w.heap.size):=by
  intro b k g hb hg
  rcases Nat.lt_or_ge b c.H.length with hlt|hge
  ·left
   exact⟨by simpa[c',List.getElem?_append_left hlt]using hb,by simpa[c',List.getElem?_append_left (by omega:b<c.ρ.length)]using hg⟩
  ·right
   have hb':b=c.H.length:=by
    have:=(List.getElem?_eq_some_iff.1 hb).1
    simp[c']at this
    omega
   subst hb'
   refine⟨rfl,?_,?_⟩
   ·simpa[c',eq_comm]using hb
   ·simp only[c']at hg
    rw[← hlen,List.getElem?_append_right (Nat.le_refl _)]at hg
    simpa[eq_comm]using hg
 have hto:To c c':=by
  refine⟨List.prefix_append _ _,by simp[c',hsize],rfl,rfl,rfl,?_,fun g hg _=>hold g hg,fun g cur1 e1 fz1 h1=>⟨cur1,fz1,(hold g (Array.getElem?_eq_some_iff.1 h1).1).trans h1,rfl⟩,fun g es1 n1 h1=>⟨es1,n1,(hold g (Array.getElem?_eq_some_iff.1 h1).1).trans h1⟩,fun g o h1 _=>⟨o,(hold g (Array.getElem?_eq_some_iff.1 h1).1).trans h1,rfl⟩,?_⟩
  ·rintro g hg ⟨b,k,hb,hbg⟩
   rcases live b k g hb hbg with⟨h1,h2⟩|⟨-,-,h3⟩
   ·exact⟨b,k,h1,h2⟩
   ·omega
  ·intro g hg
   simp only[c']
   constructor
   ·rintro(h|h)
    ·exact h
    ·omega
   ·exact fun h=>.inl (.inl h)
 refine⟨c',rfl,rfl,hto,?_,?_,hnew⟩
 ·refine⟨by simp[c',hlen],?_,?_,?_,?_,hto.glob ok⟩
  ·rintro g (h|h)
   ·have:=ok.lt g h
    simp[c',hsize]
    omega
   ·simp[c',hsize,h]
  ·rintro g ⟨b,k,hb,hbg⟩
   rcases live b k g hb hbg with⟨h1,h2⟩|⟨-,-,h3⟩
   ·exact .inl (ok.img g ⟨b,k,h1,h2⟩)
   ·exact .inr h3
  ·intro b e1 cs1 wh1 g hb hg
   rcases live b _ g hb hg with⟨h1,h2⟩|⟨-,h2,h3⟩
   ·exact(ok.blk b e1 cs1 wh1 g h1 h2).keep (hto.keeps ok) (hold g (ok.lt g (ok.img g ⟨b,_,h1,h2⟩)))
   ·simp only[Blk.mk.injEq]at h2
    obtain⟨rfl,rfl,rfl⟩:=h2
    subst h3
    exact hB _ _ _ (hto.keeps ok) hnew
  ·intro b b' k k' g hb hb' hg hg'
   rcases live b k g hb hg with⟨h1,h2⟩|⟨h1,-,h3⟩<;>rcases live b' k' g hb' hg' with⟨h4,h5⟩|⟨h4,-,h6⟩
   ·exact ok.inj b b' k k' g h1 h4 h2 h5
   ·have:=ok.lt g (ok.img g ⟨b,k,h1,h2⟩)
    omega
   ·have:=ok.lt g (ok.img g ⟨b',k',h4,h5⟩)
    omega
   ·omega
 ·simp only[c']
  rw[← hlen]
  simp
theorem aOw{c:Cfg}(ok:Ok Gd c){b g:Nat}{k:Blk}{o o':Obj}{cs:List A}(hb:c.H[b]?=some (some k))(hg:c.ρ[b]?=some g)(hcur:c.w.heap[g]?=some o)(hk0:iS o≠0)(hk:iS o'=iS o)
  (hB:∀ ρ' own' w',jN c.ρ c.own c.w ρ' own' w'→w'.heap[g]?=some o'→W9 Gd ρ' own' w' 0 cs true g) :
  ∃ c',c'.H=c.H.set b (some ⟨0,cs,true⟩)∧c'.w=c.w.putObj g o'∧To c c'∧Ok Gd c'∧c'.ρ=c.ρ:=by
 let c':Cfg:=⟨c.ρ,c.own,c.H.set b (some ⟨0,cs,true⟩),c.w.putObj g o'⟩
 have hbl:=(List.getElem?_eq_some_iff.1 hb).1
 have live:∀(b1:Nat) (k1:Blk) (g1:Nat),c'.H[b1]?=some (some k1)→c'.ρ[b1]?=some g1→(b1≠b∧c.H[b1]?=some (some k1)∧c.ρ[b1]?=some g1)∨(b1=b∧k1=⟨0,cs,true⟩∧g1=g):=by
  intro b1 k1 g1 h1 h2
  by_cases hbb:b1=b
  ·subst hbb
   right
   have h3:c.ρ[b1]?=some g1:=h2
   rw[hg]at h3
   simp only[c',List.getElem?_set_self hbl,Option.some.injEq]at h1
   exact⟨rfl,h1.symm,(Option.some.inj h3).symm⟩
  ·left
   refine⟨hbb,?_,h2⟩
   simpa[c',List.getElem?_set_ne (Ne.symm hbb)]using h1
 have himg:img c.ρ c.H g:=⟨b,k,hb,hg⟩
 have hother:∀ g1,g1≠g→(c.w.putObj g o').heap[g1]?=c.w.heap[g1]?:=fun g1 hg1=>World.putObj_heap_other hg1
 have hself:(c.w.putObj g o').heap[g]?=some o':=World.putObj_heap_same (Array.getElem?_eq_some_iff.1 hcur).1
 have hto:To c c':=by
  refine⟨List.prefix_rfl,by simp[c'],rfl,rfl,rfl,?_,?_,fun g1 cur1 e1 fz1 h1=>⟨cur1,fz1,(hother g1 (by rintro rfl;rw[hcur]at h1;cases h1;exact hk0 rfl)).trans h1,rfl⟩,fun g1 es1 n1 h1=>⟨es1,n1,(hother g1 (by rintro rfl;rw[hcur]at h1;cases h1;exact hk0 rfl)).trans h1⟩,?_,fun _ _=>⟨id,.inl⟩⟩
  ·rintro g1 hg1 ⟨b1,k1,h1,h2⟩
   rcases live b1 k1 g1 h1 h2 with⟨-,h3,h4⟩|⟨-,-,h3⟩
   ·exact⟨b1,k1,h3,h4⟩
   ·rw[h3];exact himg
  ·intro g1 hg1 hn
   exact hother g1 fun h=>hn (h▸himg)
  ·intro g1 o1 h1 h0
   by_cases hgg:g1=g
   ·subst hgg
    rw[hcur]at h1
    cases h1
    exact⟨o',hself,hk⟩
   ·exact⟨o1,(hother g1 hgg).trans h1,rfl⟩
 refine⟨c',rfl,rfl,hto,?_,rfl⟩
 refine⟨by simp[c',ok.len],fun g1 h1=>by simpa[c']using ok.lt g1 h1,?_,?_,?_,hto.glob ok⟩
 ·rintro g1 ⟨b1,k1,h1,h2⟩
  rcases live b1 k1 g1 h1 h2 with⟨-,h3,h4⟩|⟨-,-,h3⟩
  ·exact ok.img g1 ⟨b1,k1,h3,h4⟩
  ·rw[h3];exact ok.img g himg
 ·intro b1 e1 cs1 wh1 g1 h1 h2
  rcases live b1 _ g1 h1 h2 with⟨hne,h3,h4⟩|⟨-,h3,h4⟩
  ·have hgg:g1≠g:=fun h=>hne (ok.inj b1 b _ k g1 h3 hb h4 (h▸hg))
   exact(ok.blk b1 e1 cs1 wh1 g1 h3 h4).keep (hto.keeps ok) (hother g1 hgg)
  ·simp only[Blk.mk.injEq]at h3
   obtain⟨rfl,rfl,rfl⟩:=h3
   subst h4
   exact hB _ _ _ (hto.keeps ok) hself
 ·intro b1 b2 k1 k2 g1 h1 h2 h3 h4
  rcases live b1 k1 g1 h1 h3 with⟨hne,h5,h6⟩|⟨h5,-,h6⟩<;>rcases live b2 k2 g1 h2 h4 with⟨hne',h7,h8⟩|⟨h7,-,h8⟩
  ·exact ok.inj b1 b2 k1 k2 g1 h5 h7 h6 h8
  ·subst h8
   exact absurd (ok.inj b1 b k1 k g1 h5 hb h6 hg) hne
  ·subst h6
   exact absurd (ok.inj b2 b k2 k g1 h7 hb h8 hg) hne'
  ·omega
end Go.Proofs.YtpdphobnchajbaaGreatDoor.Ev
