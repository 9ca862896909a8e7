/- The frame of every law of this work: what a law's contract ('it returns true, and nothing that was there has changed') gives for its row; and a struct of five one-cell fields opened. -/
import Derived.Test.YtpdphobnchajbaaGreatDoorRows
import Derived.WalkKit
import Derived.ProofKit
import Derived.OpenShut
import Derived.Lib.SmallJoins
import Derived.Deep.DeepHandedRow
import Derived.Lib.LaidTab
import Derived.Test.YtpdphobnchajbaaGreatDoorQ01
import Derived.SizedLaws
import Derived.Test.YtpdphobnchajbaaGreatDoorQ03
import Derived.LaidByTextLater
import Derived.Test.YtpdphobnchajbaaGreatDoorChecked
import Derived.Lib.Bytealg
import Derived.Laws.StandIn
import Derived.RecoverIn
import Derived.Lib.Builder
import Derived.Shelf.Strings.Builder1
import Derived.Shelf.Strings.Builder2
import Derived.Shelf.Strings.OnBuilder
import Derived.Shelf.LaysM
import Derived.Shelf.Strconv.Itoa3
import Derived.Ground.MpProg
import Derived.Shelf.Pu.ParseUintPublic10
set_option linter.unusedSimpArgs false
set_option linter.unusedVariables false
namespace Go.Proofs.YtpdphobnchajbaaGreatDoor
open Go.ChangeShapes Go.WideShapes Go.ChangeAt Go.RowKit Go.Joins Go.Deep
section
variable{H:Type}{enc:TypeId×Value→H}{P:Program}
theorem qZ{W W':World}(hl:laidOutB P=true)(hb:Below W.heap.size W W'):∀(ts:List TypeId) (vs:List Value) (ds:List (DataW H)) (p:List MemPlace),ts.all (fun t=>P.readableRec t&&decide (t<P.types.size))=true →
  DataW.TrodAll enc P W 0 (fun _=>true) true ts vs ds p→(∀ x∈p,x.block<W.heap.size)→DataW.TrodAll enc P W' 0 (fun b=>decide (b<W.heap.size)) true ts vs ds p
 |[],[],[],_,_,h,_=>h
 |[],[],_::_,_,_,h,_=>h.elim
 |[],_::_,_,_,_,h,_=>h.elim
 |_::_,[],_,_,_,h,_=>h.elim
 |_::_,_::_,[],_,_,h,_=>h.elim
 |t::ts,v::vs,d::ds,_,hr,⟨p,q,h1,h2,e⟩,hlt=>by
  subst e
  simp only[List.all_cons,Bool.and_eq_true,decide_eq_true_eq]at hr
  exact⟨p,q,Below.trod hl hr.1.1 hr.1.2 h1 hb (fun x hx=>hlt x (List.mem_append_left _ hx)),qZ hl hb ts vs ds q (by simpa using hr.2) h2 (fun x hx=>hlt x (List.mem_append_right _ hx)),rfl⟩
theorem aEv{f:Func}{s:ChangeSpec}{W W':World}{args:Array Value}{ds gs:List (DataW H)}{before:List MemPlace}{tb:TypeId}(hl:laidOutB P=true)(hps:f.params.toList.all (fun t=>P.readableRec t&&decide (t<P.types.size))=true)
  (hv:s.vars=[]) (hrt:f.resultTypes=#[tb]) (htb:P.underlying tb=some .bool) (hfn:(s.fn H (ds++[])).results=[.lit (.bool true)]∧(s.fn H (ds++[])).args=ds∧(s.fn H (ds++[])).vars=[])
  (hW:DataW.Whole enc P f.params.toList s.vars false W args.toList ds gs before) (hb:Below W.heap.size W W'):s.post enc P f false true false false W args (.bool true) W':=by
 have hlt:=hW.lt
 have hW0:=hW
 obtain⟨p,q,hA,hV,hpq,hfz,hnd⟩:=hW
 have hg:gs=[]∧q=[]:=by
  rw[hv]at hV
  cases gs with
  |nil=>exact⟨rfl,hV⟩
  |cons g gs=>exact hV.elim
 obtain⟨rfl,rfl⟩:=hg
 subst hpq
 refine⟨ds,[],_,[],p,[],hW0,?_,?_,?_,hb.frame _,fun h=>by cases h⟩
 ·rw[hfn.1,hrt]
  exact trodAll_mk1 (shut_bool htb true)
 ·rw[hfn.2.1]
  exact qZ hl hb _ _ _ _ hps hA (fun x hx=>hlt x (by simp[hx]))
 ·rw[hfn.2.2,hv]
  rfl
variable{w:World}{base:Nat}{spare:Nat→Bool}{held:Bool}
end
inductive Sc where
 |int (k:IntKind)
 |bool
 |str
def Sc.fits:Sc→Value→Prop
 |.int k,v=>∃ x:Int,v=.int k x∧(Lit.int k x).wf=true
 |.bool,v=>∃ b:Bool,v=.bool b
 |.str,v=>∃ s:ByteArray,v=.string s∧s.size≤maxLen
def L8(P:Program)(F:TypeId→Option (List Sc)):List Field→Nat→Option (List Sc)
 |[],_=>some []
 |f::fs,off=>if f.offset=off then(F f.type).bind fun a=>if a.length=P.cellsOf f.type then(L8 P F fs (off+a.length)).map (a++·)else none else none
def iA(P:Program):Nat→TypeId→Option (List Sc)
 |0,_=>none
 |n+1,t =>
  match P.underlying t with
  |some .bool=>some [.bool]
  |some (.int k)=>some [.int k]
  |some .string=>some [.str]
  |some (.struct fs)=>(L8 P (iA P n) fs.toList 0).bind fun ks=>if ks.length=P.cellsOf t then some ks else none
  |some (.array k e)=>(iA P n e).bind fun a=>if a.length=P.cellsOf e∧k*a.length=P.cellsOf t then some (List.replicate k a).flatten else none
  |_=>none
section
variable{H:Type}{enc:TypeId×Value→H}{P:Program}{w:World}{base:Nat}{spare:Nat→Bool}{held:Bool}
end
theorem XC{x:Int}(h:(Lit.int .u8 x).wf=true):0≤x∧x≤255:=by
 have:=bounds_u8 h
 omega
end Go.Proofs.YtpdphobnchajbaaGreatDoor
namespace Go.Proofs.YtpdphobnchajbaaGreatDoor
open Go Go.RowKit Go.Proofs.YtpdphobnchajbaaGreatDoor.Ev
open Go.ChangeShapes Go.WideShapes Go.ChangeAt
inductive Sh where
 |sc (s:Sc)
 |sl (e:List Sh)
 |any
def bCI:Value→Bool
 |.slice _ _ _=>true
 |_=>false
mutual
def gA:Sh→A→Prop
 |.sc s,a=>∃ x,a=.v x∧s.fits x
 |.sl e,a=>∃(l:List (List A)),a=.sl l.length l.flatten∧l.length≤reachBytes∧∀ c∈l,dQ e c
 |.any,a=>∃ x,a=.v x∧bCI x=true
def dQ:List Sh→List A→Prop
 |[],l=>l=[]
 |s::ks,l=>∃ a l',l=a::l'∧gA s a∧dQ ks l'
end
theorem bJ{s:Sh}{ks:List Sh}{l:List A}(h:dQ (s::ks) l):∃ a l',l=a::l'∧gA s a∧dQ ks l':=by rwa [dQ]at h
theorem fP{l:List A}(h:dQ [] l):l=[]:=by rwa [dQ]at h
theorem OB{k:IntKind}{a:A}(h:gA (.sc (.int k)) a):∃ x:Int,a=.v (.int k x)∧(Lit.int k x).wf=true:=by
 rw[gA]at h
 obtain⟨x,rfl,n,rfl,hn⟩:=h
 exact⟨n,rfl,hn⟩
theorem tI{a:A}(h:gA (.sc (.int .u8)) a):∃ x:Int,a=.v (.int .u8 x)∧0≤x∧x≤255:=by
 obtain⟨x,h1,h2⟩:=OB h
 exact⟨x,h1,XC h2⟩
theorem sC{a:A}(h:gA (.sc (.int .i64)) a):∃ x:Int,a=.v (.int .i64 x)∧-9223372036854775808≤x∧x≤9223372036854775807:=by
 obtain⟨x,h1,h2⟩:=OB h
 refine⟨x,h1,?_⟩
 simp[Lit.wf,IntKind.min,IntKind.max,IntKind.signed,IntKind.bits]at h2
 omega
theorem EA{a:A}(h:gA (.sc .bool) a):∃ b:Bool,a=.v (.bool b):=by
 rw[gA]at h
 obtain⟨x,rfl,n,rfl⟩:=h
 exact⟨n,rfl⟩
theorem NU{a:A}(h:gA (.sc .str) a):∃ s:ByteArray,a=.v (.string s)∧s.size≤maxLen:=by
 rw[gA]at h
 obtain⟨x,rfl,n,rfl,hn⟩:=h
 exact⟨n,rfl,hn⟩
theorem aNV{e:List Sh}{a:A}(h:gA (.sl e) a):∃(l:List (List A)),a=.sl l.length l.flatten∧l.length≤reachBytes∧∀ c∈l,dQ e c:=by rwa [gA]at h
theorem nE{α β:Type}{p:α→Prop}{f:α→β}:∀{l:List β},(∀ c∈l,∃ x,p x∧c=f x)→∃ xs:List α,(∀ x∈xs,p x)∧l=xs.map f
 |[],_=>⟨[],by simp,rfl⟩
 |c::l,h=>by
  obtain⟨x,hx,rfl⟩:=h c (by simp)
  obtain⟨xs,h1,rfl⟩:=nE (l:=l) fun c hc=>h c (by simp[hc])
  exact⟨x::xs,by simpa using ⟨hx,h1⟩,rfl⟩
theorem uC:∀{a b:List Sh} {xs ys:List A},dQ a xs→dQ b ys→dQ (a++b) (xs++ys)
 |[],_,xs,ys,h,h'=>by
  rw[dQ]at h
  subst h
  exact h'
 |s::a,b,xs,ys,h,h'=>by
  rw[dQ]at h
  obtain⟨x,xs',rfl,h1,h2⟩:=h
  rw[List.cons_append,dQ]
  exact⟨x,xs'++ys,rfl,h1,uC h2 h'⟩
def sZ(P:Program)(F:TypeId→Option (List Sh)):List Field→Nat→Option (List Sh)
 |[],_=>some []
 |f::fs,off=>if f.offset=off then(F f.type).bind fun a=>if a.length=P.cellsOf f.type then(sZ P F fs (off+a.length)).map (a++·)else none else none
def pM(P:Program):Nat→TypeId→Option (List Sh)
 |0,_=>none
 |n+1,t =>
  match P.underlying t with
  |some .bool=>some [.sc .bool]
  |some (.int k)=>some [.sc (.int k)]
  |some .string=>some [.sc .str]
  |some (.slice e)=>(pM P n e).bind fun a=>if(a.length=P.cellsOf e∧0<a.length)∧0<P.bytesOf e then some [.sl a]else none
  |some (.struct fs)=>(sZ P (pM P n) fs.toList 0).bind fun ks=>if ks.length=P.cellsOf t then some ks else none
  |some (.array k e)=>(pM P n e).bind fun a=>if a.length=P.cellsOf e∧k*a.length=P.cellsOf t then some (List.replicate k a).flatten else none
  |_=>none
section
variable{H:Type}{enc:TypeId×Value→H}{P:Program}{w:World}{base:Nat}{spare:Nat→Bool}{held:Bool}
def jM(P:Program)(t:TypeId)(d:DataW H):Prop:=∀ n∈d.weights P t,n≤reachBytes
theorem i7:∀{ds:List (DataW H)} {j:Nat} {d:DataW H} {e:TypeId},ds[j]?=some d→∀ n∈d.weights P e,n∈DataW.weightsAll P e ds
 |d0::ds,0,d,e,hd,n,hn=>by
  simp only[List.getElem?_cons_zero,Option.some.injEq]at hd
  subst hd
  simp only[DataW.weightsAll,List.mem_append]
  exact Or.inl hn
 |d0::ds,j+1,d,e,hd,n,hn=>by
  simp only[List.getElem?_cons_succ]at hd
  simp only[DataW.weightsAll,List.mem_append]
  exact Or.inr (i7 hd n hn)
 |[],_,_,_,hd,_,_=>by simp at hd
def iG(w:World)(ks:List Sh)(cs:List Value):Prop:=∃ l,dQ ks l∧RL [] (fun _=>False) w l cs
theorem iG.append{a b:List Sh}{xs ys:List Value}(h:iG w a xs)(h':iG w b ys):iG w (a++b) (xs++ys):=by
 obtain⟨l,h1,h2⟩:=h
 obtain⟨l',h3,h4⟩:=h'
 exact⟨l++l',uC h1 h3,RL.append h2 h4⟩
theorem iG.nil:iG w [] []:=⟨[],by rw[dQ],RL.nil⟩
theorem iG.one{s:Sc}{v:Value}(h:s.fits v):iG w [.sc s] [v]:=by
 refine⟨[.v v],?_,RL.cons (by rw[R]) RL.nil⟩
 rw[dQ]
 refine⟨_,_,rfl,?_,by rw[dQ]⟩
 rw[gA]
 exact⟨v,rfl,h⟩
theorem sN{F:TypeId→Option (List Sh)}{n:Nat}{cs:List Value}(ih:∀ t ks,F t=some ks→∀(cs:List Value) (x:DataW H×List MemPlace),DataW.trod enc P w base spare held n t cs=some x→jM P t x.1→iG w ks cs) :
  ∀(fs:List Field) (off:Nat) (ks:List Sh),sZ P F fs off=some ks→(∀ f∈fs,∃ x,DataW.trod enc P w base spare held n f.type ((cs.drop f.offset).take (P.cellsOf f.type))=some x∧jM P f.type x.1)→cs.length=off+ks.length→iG w ks (cs.drop off)
 |[],off,ks,h,_,hl=>by
  simp only[sZ,Option.some.injEq]at h
  subst h
  rw[List.drop_eq_nil_of_le (by simp at hl;omega)]
  exact iG.nil
 |f::fs,off,ks,h,hx,hl=>by
  simp only[sZ]at h
  split at h
  ·rename_i ho
   obtain⟨a,ha,h⟩:=Option.bind_eq_some_iff.1 h
   split at h
   ·rename_i hal
    obtain⟨r,hr,rfl⟩:=Option.map_eq_some_iff.1 h
    obtain⟨x,hx0,hx1⟩:=hx f (.head _)
    have h1:=ih f.type a ha _ _ hx0 hx1
    have h2:=sN ih fs (off+a.length) r hr (fun g hg=>hx g (.tail _ hg)) (by rw[hl];simp;omega)
    have e:cs.drop off=(cs.drop off).take a.length++cs.drop (off+a.length):=by
     rw[← List.drop_drop,List.take_append_drop]
    rw[e]
    rw[ho,← hal]at h1
    exact h1.append h2
   ·cases h
  ·cases h
theorem CJ{a:List Sh}{cs:List Value}:∀(k off:Nat),(∀ i,i<k→iG w a ((cs.drop (off+i*a.length)).take a.length))→cs.length=off+k*a.length→iG w (List.replicate k a).flatten (cs.drop off)
 |0,off,_,hl=>by
  rw[List.drop_eq_nil_of_le (by simp at hl;omega)]
  exact iG.nil
 |k+1,off,h,hl=>by
  have h0:=h 0 (by omega)
  have h1:=CJ k (off+a.length) (fun i hi=>by have:=h (i+1) (by omega);rwa [show off+a.length+i*a.length=off+(i+1)*a.length by rw[Nat.add_mul];omega]) (by rw[hl,Nat.add_mul];omega)
  have e:cs.drop off=(cs.drop off).take a.length++cs.drop (off+a.length):=by
   rw[← List.drop_drop,List.take_append_drop]
  rw[e,List.replicate_succ,List.flatten_cons]
  simp only[Nat.zero_mul,Nat.add_zero]at h0
  exact h0.append h1
theorem CP{b0:Nat}{a:Addr}{n:Nat}{cs:List Value}(h:w.cells? b0 a n=some cs):cs.length=n∧∀ i,i<n→w.cell? (a.add i)=cs[i]?:=by
 unfold World.cells? at h
 split at h
 ·exact⟨by simpa using mapM_some_length h,fun i hi=>mapM_some_get h i i (by simp[hi])⟩
 ·cases h
theorem wL{a:List Sh}{ad:Addr}(ha:0<a.length):∀(len:Nat),(∀ i,i<len→∃ cs,w.cells? base (ad.add (i*a.length)) a.length=some cs∧iG w a cs) →
  ∃(l:List (List A)) (xs:List Value),l.length=len∧(∀ c∈l,dQ a c)∧RL [] (fun _=>False) w l.flatten xs∧xs.length=len*a.length∧∀ i,i<len*a.length→w.cell? ((ad.add (i/a.length*a.length)).add (i % a.length))=xs[i]?
 |0,_=>⟨[],[],rfl,by simp,RL.nil,by simp,by simp⟩
 |len+1,h=>by
  obtain⟨l,xs,h1,h2,h3,h4,h5⟩:=wL ha len fun i hi=>h i (by omega)
  obtain⟨cs,h6,c,h7,h8⟩:=h len (by omega)
  obtain⟨h9,h10⟩:=CP h6
  refine⟨l++[c],xs++cs,by simp[h1],?_,?_,?_,?_⟩
  ·intro d hd
   rcases List.mem_append.1 hd with hd|hd
   ·exact h2 d hd
   ·rw[List.mem_singleton.1 hd];exact h7
  ·rw[List.flatten_append]
   simpa using RL.append h3 h8
  ·simp[h4,h9,Nat.add_mul]
  ·intro i hi
   rcases Nat.lt_or_ge i (len*a.length)with hlt|hge
   ·rw[h5 i hlt,List.getElem?_append_left (by omega)]
   ·have e1:i/a.length=len:=by
     rw[Nat.add_mul]at hi
     apply Nat.div_eq_of_lt_le
     ·exact hge
     ·rw[Nat.add_mul];omega
    have e2:i % a.length=i-len*a.length:=by
     have:=Nat.div_add_mod i a.length
     rw[e1,Nat.mul_comm]at this
     omega
    rw[e1,e2,h10 _ (by rw[Nat.add_mul]at hi;omega),List.getElem?_append_right (by omega),h4]
theorem l4:∀(m:Nat) (t:TypeId) (ks:List Sh),pM P m t=some ks→∀(fuel:Nat) (cs:List Value) (x:DataW H×List MemPlace),DataW.trod enc P w base spare held fuel t cs=some x→jM P t x.1→iG w ks cs
 |0,_,_,h,_,_,_,_,_=>by simp[pM]at h
 |m+1,t,ks,h,fuel,cs,x,hx,hlight=>by
  unfold pM at h
  split at h
  ·rename_i ht
   obtain⟨b,rfl,-⟩:=DataW.trod_bool ht hx
   obtain rfl:=Option.some.inj h
   exact iG.one ⟨b,rfl⟩
  ·rename_i k ht
   obtain⟨y,rfl,-,hw⟩:=DataW.trod_int ht hx
   obtain rfl:=Option.some.inj h
   exact iG.one ⟨y,rfl,hw⟩
  ·rename_i ht
   obtain⟨s,rfl,-,hs⟩:=DataW.trod_string ht hx
   obtain rfl:=Option.some.inj h
   exact iG.one ⟨s,rfl,hs⟩
  ·rename_i e ht
   obtain⟨a,ha,h⟩:=Option.bind_eq_some_iff.1 h
   split at h
   ·rename_i hlen0
    obtain⟨hlen,hbytes⟩:=hlen0
    obtain rfl:=Option.some.inj h
    have fin:∀(l:List (List A)) (v:Value),l.length≤reachBytes→(∀ c∈l,dQ a c)→R [] (fun _=>False) w (.sl l.length l.flatten) v→iG w [.sl a] [v]:=fun l v h1 h2 h3=>by
     refine⟨[.sl l.length l.flatten],?_,RL.cons h3 RL.nil⟩
     rw[dQ]
     refine⟨_,_,rfl,?_,by rw[dQ]⟩
     rw[gA]
     exact⟨l,rfl,h1,h2⟩
    rcases DataW.trod_slice ht hx with⟨rfl,-⟩|⟨ad,len,cap,elems,rest,n,rfl,rfl,hxd,hb,hl,hc,hel,hall,-⟩
    ·refine fin [] _ (Nat.zero_le _) (by simp) ?_
     rw[R]
     exact .inl ⟨rfl,rfl,_,_,rfl⟩
    ·have hroom:len≤reachBytes:=by
      have:=hlight ((elems.length+rest.length)*P.bytesOf e) (by simp[hxd,DataW.weights,ht])
      have h2:(elems.length+rest.length)*1≤(elems.length+rest.length)*P.bytesOf e:=Nat.mul_le_mul_left _ hbytes
      omega
     have hel':∀ i,i<len→∀ y,elems[i]?=some y→jM P e y.1:=fun i hi y hy k hk=>by
      refine hlight k ?_
      simp only[hxd,DataW.weights,ht]
      refine List.mem_cons_of_mem _ (List.mem_append_left _ (i7 (j:=i) (d:=y.1) ?_ k hk))
      rw[List.getElem?_map,hy]
      rfl
     have hele:∀ i,i<len→∃ cs,w.cells? base (ad.add (i*a.length)) a.length=some cs∧iG w a cs:=fun i hi=>by
      obtain⟨y,hy⟩:∃ y,elems[i]?=some y:=⟨_,List.getElem?_eq_getElem (by omega)⟩
      have h1:=(hall i hi).trans hy
      rw[← hlen.1]at h1
      obtain⟨cs,h2,h3⟩:=Option.bind_eq_some_iff.1 h1
      exact⟨cs,h2,l4 m e a ha n cs _ h3 (hel' i hi y hy)⟩
     obtain⟨l,xs,h1,h2,h3,h4,h5⟩:=wL hlen.2 len hele
     refine fin l _ (by omega) h2 ?_
     rw[R]
     rcases Nat.eq_zero_or_pos len with rfl|hpos
     ·left
      have hl0:=List.eq_nil_of_length_eq_zero h1
      subst hl0
      exact⟨rfl,rfl,_,_,rfl⟩
     ·right
      have h0:=h5 0 (Nat.mul_pos hpos hlen.2)
      have hx0:∃ y,xs[0]?=some y:=⟨_,List.getElem?_eq_getElem (by rw[h4];exact Nat.mul_pos hpos hlen.2)⟩
      obtain⟨y0,hx0⟩:=hx0
      rw[hx0]at h0
      have had:(ad.add (0/a.length*a.length)).add (0 % a.length)=ad:=by simp[Addr.add]
      rw[had]at h0
      have hsp:ad.spot=none:=by
       unfold World.cell? at h0
       split at h0
       ·split at h0
        ·cases h0
        ·rename_i hs
         simpa using hs
       ·cases h0
      obtain⟨g,off,sp⟩:=ad
      simp only at hsp
      subst hsp
      refine⟨g,off,cap,xs,by rw[h1],by omega,World.block_lt_of_cell? w ⟨g,off,none⟩ h0,fun h=>h,h3,fun i x hi=>?_⟩
      have hil:i<len*a.length:=by
       rw[← h4]
       exact(List.getElem?_eq_some_iff.1 hi).1
      rw[← hi,← h5 i hil]
      congr 1
      have:=Nat.div_add_mod i a.length
      rw[Nat.mul_comm]at this
      unfold Addr.add
      split<;>split<;>simp_all<;>omega
   ·cases h
  ·rename_i fs ht
   obtain⟨ks',hk,h⟩:=Option.bind_eq_some_iff.1 h
   split at h
   ·rename_i hlen
    obtain rfl:=Option.some.inj h
    obtain⟨xs,n,-,hxd,hcl,hxl,hf⟩:=DataW.trod_struct ht hx
    have:=sN (P:=P) (cs:=cs) (n:=n) (fun t ks hks cs x hx hy=>l4 m t ks hks n cs x hx hy) fs.toList 0 ks' hk (fun f hfm=>by
     obtain⟨i,hi⟩:=List.mem_iff_getElem?.1 hfm
     have hi':fs[i]?=some f:=by simpa using hi
     have hlt:=(Array.getElem?_eq_some_iff.1 hi').1
     obtain⟨y,hy⟩:∃ y,xs[i]?=some y:=⟨_,List.getElem?_eq_getElem (by omega)⟩
     refine⟨y,(hf i f hi').trans hy,fun k hk=>hlight k ?_⟩
     simp only[hxd,DataW.weights,ht]
     refine DataW.weights_mem_each (j:=i) (t:=f.type) (d:=y.1) ?_ ?_ k hk
     ·rw[List.getElem?_map,hi]
      rfl
     ·rw[List.getElem?_map,hy]
      rfl) (by omega)
    simpa using this
   ·cases h
  ·rename_i k e ht
   obtain⟨a,ha,h⟩:=Option.bind_eq_some_iff.1 h
   split at h
   ·rename_i hlen
    obtain rfl:=Option.some.inj h
    obtain⟨xs,n,-,hxd,hcl,hxl,hf⟩:=DataW.trod_array ht hx
    have:=CJ (a:=a) (cs:=cs) k 0 (fun i hi=>by
     obtain⟨y,hy⟩:∃ y,xs[i]?=some y:=⟨_,List.getElem?_eq_getElem (by omega)⟩
     have h1:=(hf i hi).trans hy
     have:=l4 m e a ha n _ _ h1 (fun k hk=>hlight k (by
      simp only[hxd,DataW.weights,ht]
      refine i7 (j:=i) (d:=y.1) ?_ k hk
      rw[List.getElem?_map,hy]
      rfl))
     rwa [hlen.1,Nat.zero_add]) (by omega)
    simpa using this
   ·cases h
  ·cases h
theorem Z2{t:TypeId}{v:Value}{d:DataW H}{p:List MemPlace}{k:Sh}(m:Nat)(hf:pM P m t=some [k])(hv:∀ cs,v≠.agg cs)(h:DataW.Trod enc P w base spare held t v d p)(hd:jM P t d):∃ a,gA k a∧R [] (fun _=>False) w a v:=by
 obtain⟨fuel,hx⟩:=h
 obtain⟨l,h1,h2⟩:=l4 m t _ hf fuel _ _ hx hd
 obtain⟨a,l',rfl,h3,h4⟩:=bJ h1
 obtain rfl:=fP h4
 have hc:v.cells.toList=[v]:=by
  cases v<;>first
   |rfl
   |exact absurd rfl (hv _)
 rw[hc,RL]at h2
 obtain⟨x,xs,h5,h6,-⟩:=h2
 injection h5 with h7 _
 subst h7
 exact⟨a,h3,h6⟩
theorem aTY{r:Reach}{b0:Nat}{t:TypeId}{v:Value}(h:Value.okWide P w r b0 t v)(hd:(match P.underlying t with|some .bool|some (.int _)|some .string|some (.slice _)=>true|_=>false)=true):∀ cs,v≠.agg cs:=by
 rintro cs rfl
 unfold Value.okWide at h
 split at hd
 ·rename_i hu
  simp[hu,Cell.okWide,Cell.ok]at h
 ·rename_i hu
  simp[hu,Cell.okWide,Cell.ok]at h
 ·rename_i hu
  simp[hu,Cell.okWide,Cell.ok]at h
 ·rename_i hu
  simp[hu,Cell.okWide,Cell.ok]at h
 ·cases hd
end
end Go.Proofs.YtpdphobnchajbaaGreatDoor
namespace Go.Proofs.YtpdphobnchajbaaGreatDoor
open Go Go.RowKit Go.Proofs.YtpdphobnchajbaaGreatDoor.Ev
open Go.ChangeShapes Go.WideShapes Go.ChangeAt
def sV(F:DataW Unit→Option (List Value))(c:Nat):List (DataW Unit)→Option (List Value)
 |[]=>some []
 |d::ds=>match F d,sV F c ds with
  |some a,some r=>if a.length=c then some (a++r)else none
  |_,_=>none
def oQ(P:Program)(F:TypeId→DataW Unit→Option (List Value)):List Field→List (DataW Unit)→Nat→Option (List Value)
 |[],[],_=>some []
 |f::fs,d::ds,off=>match F f.type d,oQ P F fs ds (off+P.cellsOf f.type)with
  |some a,some r=>if a.length=P.cellsOf f.type∧f.offset=off then some (a++r)else none
  |_,_=>none
 |_,_,_=>none
def u3(P:Program):Nat→TypeId→DataW Unit→Option (List Value)
 |0,_,_=>none
 |n+1,t,d=>match P.underlying t with
  |some .bool=>match d with
   |.lit (.bool b)=>some [.bool b]
   |_=>none
  |some (.int k)=>match d with
   |.lit (.int k' z)=>if k=k' then some [.int k z]else none
   |_=>none
  |some .string=>match d with
   |.lit (.string s)=>some [.string ⟨s.toArray⟩]
   |_=>none
  |some (.array _ e)=>match d with
   |.agg ps=>(sV (u3 P n e) (P.cellsOf e) ps).bind fun vs=>if vs.length=P.cellsOf t then some vs else none
   |_=>none
  |some (.struct fs)=>match d with
   |.agg ps=>(oQ P (u3 P n) fs.toList ps 0).bind fun vs=>if vs.length=P.cellsOf t then some vs else none
   |_=>none
  |_=>none
theorem y3{F:DataW Unit→Option (List Value)}{c:Nat}{cs:List Value}:∀(ps:List (DataW Unit)) (off:Nat) (vs:List Value),sV F c ps=some vs→(∀ i d,ps[i]?=some d→∀ a,F d=some a→(cs.drop (off+i*c)).take c=a)→cs.length=off+vs.length→cs.drop off=vs
 |[],off,vs,h,_,hl=>by
  simp only[sV,Option.some.injEq]at h
  subst h
  exact List.drop_eq_nil_of_le (by simp at hl;omega)
 |d::ds,off,vs,h,hx,hl=>by
  simp only[sV]at h
  split at h
  ·rename_i a r ha hr
   split at h
   ·rename_i hac
    obtain rfl:=Option.some.inj h
    have h1:=hx 0 d rfl a ha
    simp only[Nat.zero_mul,Nat.add_zero]at h1
    have h2:=y3 ds (off+c) r hr (fun i d' hd' a' ha'=>by
     have:=hx (i+1) d' (by simpa using hd') a' ha'
     rwa [show off+(i+1)*c=off+c+i*c by rw[Nat.add_mul];omega]at this) (by rw[hl];simp;omega)
    have e:cs.drop off=(cs.drop off).take c++cs.drop (off+c):=by rw[← List.drop_drop,List.take_append_drop]
    rw[e,h1,h2]
   ·cases h
  ·cases h
theorem AC{P:Program}{F:TypeId→DataW Unit→Option (List Value)}{cs:List Value}:∀(fs:List Field) (ps:List (DataW Unit)) (off:Nat) (vs:List Value),oQ P F fs ps off=some vs→(∀(i:Nat) (f:Field) d,fs[i]?=some f→ps[i]?=some d→∀ a,F f.type d=some a→(cs.drop f.offset).take (P.cellsOf f.type)=a)→cs.length=off+vs.length→cs.drop off=vs
 |[],[],off,vs,h,_,hl=>by
  simp only[oQ,Option.some.injEq]at h
  subst h
  exact List.drop_eq_nil_of_le (by simp at hl;omega)
 |f::fs,d::ds,off,vs,h,hx,hl=>by
  simp only[oQ]at h
  split at h
  ·rename_i a r ha hr
   split at h
   ·rename_i hac
    obtain rfl:=Option.some.inj h
    have h1:=hx 0 f d rfl rfl a ha
    have h2:=AC fs ds (off+P.cellsOf f.type) r hr (fun i f' d' hf' hd' a' ha'=>hx (i+1) f' d' (by simpa using hf') (by simpa using hd') a' ha') (by rw[hl];simp;omega)
    have e:cs.drop off=(cs.drop off).take (P.cellsOf f.type)++cs.drop (off+P.cellsOf f.type):=by rw[← List.drop_drop,List.take_append_drop]
    rw[e,← hac.2,h1,hac.2,h2]
   ·cases h
  ·cases h
 |[],_::_,_,_,h,_,_=>by simp[oQ]at h
 |_::_,[],_,_,h,_,_=>by simp[oQ]at h
section
variable{P:Program}{w:World}{base:Nat}{spare:Nat→Bool}{held:Bool}
theorem vS:∀(m:Nat) (t:TypeId) (d:DataW Unit) (vs:List Value),u3 P m t d=some vs→∀(fuel:Nat) (cs:List Value) (p:List MemPlace),DataW.trod (fun _=>()) P w base spare held fuel t cs=some (d,p)→cs=vs
 |0,_,_,_,h,_,_,_,_=>by simp[u3]at h
 |m+1,t,d,vs,h,fuel,cs,p,hx=>by
  unfold u3 at h
  split at h
  ·rename_i ht
   obtain⟨b,rfl,hd⟩:=DataW.trod_bool ht hx
   simp only[Prod.mk.injEq]at hd
   rw[hd.1]at h
   exact Option.some.inj h
  ·rename_i k ht
   obtain⟨y,rfl,hd,hw⟩:=DataW.trod_int ht hx
   simp only[Prod.mk.injEq]at hd
   rw[hd.1]at h
   simpa using h
  ·rename_i ht
   obtain⟨s,rfl,hd,hs⟩:=DataW.trod_string ht hx
   simp only[Prod.mk.injEq]at hd
   rw[hd.1]at h
   have:=Option.some.inj h
   rw[← this]
  ·rename_i k e ht
   obtain⟨xs,n,-,hxd,hcl,hxl,hf⟩:=DataW.trod_array ht hx
   simp only[Prod.mk.injEq]at hxd
   rw[hxd.1]at h
   obtain⟨vs',hk,h⟩:=Option.bind_eq_some_iff.1 h
   split at h
   ·rename_i hlen
    obtain rfl:=Option.some.inj h
    have:=y3 (cs:=cs) (xs.map (·.1)) 0 vs' hk (fun i d' hd' a ha=>by
     rw[List.getElem?_map]at hd'
     obtain⟨y,hy,rfl⟩:=Option.map_eq_some_iff.1 hd'
     have hi:i<k:=by
      rw[← hxl]
      exact(List.getElem?_eq_some_iff.1 hy).1
     have h1:=(hf i hi).trans hy
     rw[Nat.zero_add]
     exact vS m e y.1 a ha n _ y.2 h1) (by omega)
    simpa using this
   ·cases h
  ·rename_i fs ht
   obtain⟨xs,n,-,hxd,hcl,hxl,hf⟩:=DataW.trod_struct ht hx
   simp only[Prod.mk.injEq]at hxd
   rw[hxd.1]at h
   obtain⟨vs',hk,h⟩:=Option.bind_eq_some_iff.1 h
   split at h
   ·rename_i hlen
    obtain rfl:=Option.some.inj h
    have:=AC (P:=P) (cs:=cs) fs.toList (xs.map (·.1)) 0 vs' hk (fun i f d' hf' hd' a ha=>by
     rw[List.getElem?_map]at hd'
     obtain⟨y,hy,rfl⟩:=Option.map_eq_some_iff.1 hd'
     have h1:=(hf i f (by simpa using hf')).trans hy
     exact vS m f.type y.1 a ha n _ y.2 h1) (by omega)
    simpa using this
   ·cases h
  ·cases h
end
theorem n7{P:Program}{w:World}:∀{l:List (String×DataW Unit)} {ps:List MemPlace},DataW.LaidVars P w l ps→∀{n:String} {d:DataW Unit},(n,d)∈l→∃ g t cs fuel p,P.globalNamed n=some g∧(P.globals[g]?).map (·.type)=some t∧w.var? P n=some cs∧DataW.trod (fun _=>()) P w 0 (fun _=>true) false fuel t cs.toList=some (d,p)
 |[],_,_,_,_,hm=>by cases hm
 |x::l,ps,h,n,d,hm=>by
  obtain⟨n0,d0⟩:=x
  obtain⟨g,t,cs,fuel,p,q,h1,h2,h3,h4,h5,-⟩:=h
  rcases List.mem_cons.1 hm with he|hm'
  ·simp only[Prod.mk.injEq]at he
   obtain⟨rfl,rfl⟩:=he
   exact⟨g,t,cs,fuel,p,h1,h2,h3,h4⟩
  ·exact n7 h5 hm'
def a4w(P:Program)(laid:List (String×DataW Unit))(x:Nat×List Value):Bool :=
 !x.2.isEmpty&&laid.any fun y=>(match P.globalNamed y.1 with
  |some g=>Nat.beq g x.1
  |none=>false)&&(match(P.globals[x.1]?).map (·.type)with
   |some t=>match u3 P 8 t y.2 with
    |some vs=>eqL (vs.map .v) (x.2.map .v)
    |none=>false
   |none=>false)
theorem BQ:∀{a b:List Value},a.map A.v=b.map A.v→a=b
 |[],[],_=>rfl
 |x::a,y::b,h=>by
  simp only[List.map_cons,List.cons.injEq,A.v.injEq]at h
  rw[h.1,BQ h.2]
 |[],_::_,h=>by simp at h
 |_::_,[],h=>by simp at h
theorem G6{P:Program}{w:World}{spare:Nat→Bool}{held:Bool}{fuel t:Nat}{cs:List Value}{p:List MemPlace}{n:String}{d:DataW Unit}(ht:∃ ms,P.underlying t=some (.interface ms))(h:DataW.trod (fun _=>()) P w 0 spare held fuel t cs=some (.iface n d,p)):∃ u v,cs=[.iface u v]:=by
 obtain⟨ms,ht⟩:=ht
 cases fuel with
 |zero=>simp[DataW.trod]at h
 |succ m =>
  unfold DataW.trod at h
  rw[ht]at h
  split at h<;>simp_all
def aLa:DataW Unit→Bool
 |.iface _ _=>true
 |_=>false
def bCS(P:Program)(laid:List (String×DataW Unit))(g0:Nat):Bool :=
 laid.any fun y=>(match P.globalNamed y.1 with
  |some g=>Nat.beq g g0
  |none=>false)&&aLa y.2&&(match(P.globals[g0]?).map (·.type)with
   |some t=>match P.underlying t with
    |some (.interface _)=>true
    |_=>false
   |none=>false)
theorem W5{P:Program}{w:World}{n:String}{g:Nat}{cs:Array Value}(hg:P.globalNamed n=some g)(h:w.var? P n=some cs):∃ e fz,w.heap[g]?=some (.cells cs e fz):=by
 simp only[World.var?,hg,Option.bind_some]at h
 split at h
 ·rename_i cs' e fz hc
  simp only[Option.some.injEq]at h
  subst h
  exact⟨_,_,hc⟩
 ·cases h
theorem P8{P:Program}{laid:List (String×DataW Unit)}{W:World}{gl:List (Nat×List Value)}{lk:Nat→List Nat→List Nat→M→M→Loop→Prop}{ifs:Nat→Bool}(hp:(laid.filter fun x=>x.2.handleName?.isSome)=[])(h:laidMetH P laid W)(hg:gl.all (a4w P laid)=true)(hi:∀ g,ifs g=true→bCS P laid g=true):Ev.Gl ⟨wH gl,lk,ifs⟩ (fun _=>False) W:=by
 have h':laidMet P laid W:=by
  unfold laidMetH at h
  rw[hp]at h
  exact h
 obtain⟨ps,hv,-⟩:=h'
 refine⟨fun g xs hx=>?_,fun g hx=>?_⟩
 ·have hm:=BP hx
  have hb:=List.all_eq_true.1 hg _ hm
  unfold a4w at hb
  simp only[Bool.and_eq_true,Bool.not_eq_true']at hb
  obtain⟨hne,hb⟩:=hb
  obtain⟨⟨n,d⟩,hy,hb⟩:=List.any_eq_true.1 hb
  simp only[Bool.and_eq_true]at hb
  obtain⟨hb1,hb2⟩:=hb
  obtain⟨g',t,cs,fuel,p,h1,h2,h3,h4⟩:=n7 hv hy
  rw[h1]at hb1
  obtain rfl:=Nat.eq_of_beq_eq_true hb1
  rw[h2]at hb2
  simp only at hb2
  split at hb2
  ·rename_i vs hu
   have h5:=BQ (mT _ _ hb2)
   have h6:=vS 8 t d vs hu fuel _ _ h4
   have hlie:p7 W g' 0 xs:=fun i x hi=>by
    have h7:=World.var?_cell h1 h3 i
    have e:cs[i]?=some x:=by
     rw[← h5,← h6]at hi
     simpa using hi
    rw[Nat.zero_add]
    rw[h7,e]
   refine⟨fun h=>h,?_,hlie,?_⟩
   ·cases xs with
    |nil=>simp at hne
    |cons x xs=>exact World.block_lt_of_cell? W ⟨g',0,none⟩ (hlie 0 x rfl)
   ·obtain⟨e,fz,hc⟩:=W5 h1 h3
    refine⟨e,fz,?_⟩
    rw[hc,← h5,← h6]
  ·cases hb2
 ·obtain⟨⟨n,d⟩,hy,hb⟩:=List.any_eq_true.1 (hi g hx)
  simp only[Bool.and_eq_true]at hb
  obtain⟨⟨hb1,hb3⟩,hb2⟩:=hb
  obtain⟨g',t,cs,fuel,p,h1,h2,h3,h4⟩:=n7 hv hy
  rw[h1]at hb1
  obtain rfl:=Nat.eq_of_beq_eq_true hb1
  rw[h2]at hb2
  simp only at hb2
  cases d with
  |iface n' d' =>
   split at hb2
   ·rename_i ms ht
    obtain⟨u,v,hcs⟩:=G6 ⟨ms,ht⟩ h4
    have h7:=World.var?_cell h1 h3 0
    have e:cs[0]?=some (.iface u v):=by
     rw[← Array.getElem?_toList,hcs]
     rfl
    rw[e]at h7
    exact⟨fun h=>h,World.block_lt_of_cell? W ⟨g',0,none⟩ h7,u,v,h7⟩
   ·cases hb2
  |_=>cases hb3
end Go.Proofs.YtpdphobnchajbaaGreatDoor
namespace Go.Proofs.YtpdphobnchajbaaGreatDoor.Ev
open Go Go.RowKit
def YQ(c:Nat):List UInt8→Int→Int
 |[],_=>-1
 |b::l,i=>bif Nat.beq b.toNat c then i else YQ c l (i+1)
theorem oG(c:UInt8):∀ l:List UInt8,-1≤Lib.indexByte l c
 |[]=>by simp[Lib.indexByte]
 |b::l=>by
  have:=oG c l
  unfold Lib.indexByte
  split
  ·omega
  ·split<;>omega
theorem WC(c:UInt8):∀(l:List UInt8) (i:Int),YQ c.toNat l i=if Lib.indexByte l c=-1 then -1 else Lib.indexByte l c+i
 |[],i=>by simp[YQ,Lib.indexByte]
 |b::l,i=>by
  have h0:=oG c l
  unfold YQ Lib.indexByte
  rw[WC c l (i+1)]
  by_cases hb:b=c
  ·subst hb
   simp
  ·have h1:Nat.beq b.toNat c.toNat=false:=by
    cases hh:Nat.beq b.toNat c.toNat with
    |false=>rfl
    |true=>exact absurd (UInt8.toNat_inj.1 (Nat.eq_of_beq_eq_true hh)) hb
   have h2:(b==c)=false:=by simpa using hb
   simp only[h1,h2,cond_false,Bool.false_eq_true,if_false]
   by_cases h3:Lib.indexByte l c=-1
   ·simp[h3]
   ·have h4:(Lib.indexByte l c==-1)=false:=by simpa using h3
    simp only[h4,h3,Bool.false_eq_true,if_false]
    have h5:¬ Lib.indexByte l c+1=-1:=by omega
    rw[if_neg h5]
    omega
def a36(f:FuncId)(zs:List A):Option A :=
 bif Nat.beq f 323 then match zs with
  |[.v (.string s),.v (.int .u8 c)]=>if 0≤c∧c≤255 then some (.v (.int .i64 (YQ c.toNat s.data.toList 0)))else none
  |_=>none
 else none
theorem bBV{T:Tb}:QOk T Tryz.prog a36:=by
 intro f zs r h
 unfold a36 at h
 cases hb:Nat.beq f 323 with
 |false=>simp[hb]at h
 |true =>
  obtain rfl:=Nat.eq_of_beq_eq_true hb
  simp only[hb,cond_true]at h
  split at h
  ·rename_i s c
   split at h
   ·rename_i hc
    obtain rfl:=Option.some.inj h
    left
    intro ρ own w ys hr
    rw[RL]at hr
    obtain⟨y1,ys1,rfl,h1,h2⟩:=hr
    obtain⟨y2,rfl,h3⟩:=h2.single
    rw[R]at h1 h3
    subst h1
    subst h3
    refine⟨.int .i64 (YQ c.toNat s.data.toList 0),?_,by rw[R]⟩
    have hcc:c.toNat.toUInt8.toNat=c.toNat:=by
     have:c.toNat<256:=by omega
     simp[Nat.toUInt8,Nat.mod_eq_of_lt this]
    rw[run_callFunc_indexByte Tryz.func323 (by kernel_rfl) (by kernel_rfl) (by kernel_rfl) (by rfl),Lib.run_indexByteString]
    rw[← hcc,WC]
    have hge:=oG c.toNat.toUInt8 s.data.toList
    simp only[Result.andThen_ok,Int.add_zero,hcc]
    congr 3
    split
    ·rename_i h5
     exact h5
    ·rfl
   ·cases h
  ·cases h
section
variable{P:Program}{C:Ctx}
theorem wS{T:Tb}(hT:TOk P T){c0:Cfg}{st:St}{a:Act}{fn:Func}{x:A}{fc:FuncId}{cap args:Array Value}
  (hinv:∀ w,(invoke (.fn (.func fc) cap) args).run P w=.ok (.enter fc (args++cap)) w)
  (idle:∀ w,CallsDIn (Wd none) 0 P fc (args++cap) .returning w fun e u' w'=>e=.returned (.tuple #[])∧u'=.returning∧w'=w) {ds':List Deferred}:∀{ds:List Deferred} {c:Cfg},To c0 c→dF T st fn.results.toList=some x→f7 c0 c (ds++ds')→Ok T.gl c→c.H=st.H→cF c st.env a →
  LeavesInM (Wd none) 0 P fn a.tmps (MS T c0 x st.H) (ds++{ target:=.fn (.func fc) cap,args:=args }::ds') .returning c.w:=by
 intro ds
 induction ds with
 |nil =>
  intro c ht hres hmk ok hH he
  refine⟨by simp,.inr ⟨by simp[Wd.depth],.func fc,cap,fc,args++cap,rfl,hinv _,fun g hg=>Wd.fn _ g,?_⟩⟩
  refine(idle c.w).mono ?_
  rintro e u' w' ⟨rfl,rfl,rfl⟩
  exact CM hT ht hres hmk ok hH he
 |cons d ds ih =>
  intro c ht hres hmk ok hH he
  obtain⟨Ds,hnd,hDs,hD⟩:=hmk
  cases Ds with
  |nil=>simp at hDs
  |cons D Ds =>
   simp only[List.cons_append,List.map_cons,List.cons.injEq]at hDs
   obtain⟨rfl,hDs⟩:=hDs
   obtain⟨hn1,hn2⟩:=List.nodup_cons.1 hnd
   have hm:=hD D (.head _)
   obtain⟨k1,k2,k3,k4⟩:=G7 ok ht hm
   refine⟨by simp,.inl ⟨D,c.w.putObj D (.deferred none),rfl,run_takeDeferred hm.lies,?_⟩⟩
   exact ih (c:=⟨c.ρ,c.own,c.H,c.w.putObj D (.deferred none)⟩) k3 hres ⟨Ds,hn2,hDs,fun D' hD'=>k4 D' (by rintro rfl;exact hn1 hD') (hD D' (.tail _ hD'))⟩ k2 hH (fun t z hz=>R.keep k1 _ _ (he t z hz))
end
theorem aU2(p:Addr)(w:World):CallsDIn (Wd none) 0 Tryz.prog 145 #[.pointer (some p)] .returning w fun e u' w'=>e=.returned (.tuple #[])∧u'=.returning∧w'=w:=by
 refine callsDIn_of_wpSIn Tryz.func145 rfl (Wd.fn _ _) fun c₀ cs hu=>?_
 apply wpSIn_seq
 apply wpSIn_region
 have hnil:∀ w:World,(binOp BinOp.neq 20 .nilIface .nilIface).run Tryz.prog w=.ok (.bool false) w:=fun _=>by kernel_rfl
 simp[wpOpsSIn,go_sem,recoverD,hu,Tryz.ntmps145,Exit.thenS,hnil]
 refine wpSIn_cond (t:=false) (by simp[Act.eval,Array.replicate]) ?_
 simp only[Bool.false_eq_true,if_false]
 refine wpSIn_of_wpIn rfl (wpIn_skip ?_)
 cases c₀
 simp_all [bodyPostS,results,Tryz.results145]
def aJM:List Nat:=[0,1,2,3,4,5,6,7,8]
def a8Y:M:=.reg aJM [⟨some 3,.box 77 (.tmp 1),none⟩,⟨some 4,.alloc 4,none⟩] 0
def a9Y:M:=.reg aJM [⟨some 6,.move (.tmp 0),none⟩,⟨some 7,.load 77 (.tmp 3),none⟩,⟨some 8,.call ⟨.value (.tmp 6),#[.tmp 7],#[77]⟩,none⟩,⟨none,.store 4 (.tmp 4) (.tmp 8),none⟩] 0
def aDY:Code→Code
 |.seq a _=>a
 |c=>c
def aB0:Code→Code
 |.seq _ b=>b
 |c=>c
noncomputable def c29:Code:=Tryz.f77.body.getD .skip
noncomputable def o29:Array Oper:=match aDY (aB0 c29)with
 |.region _ ops _=>ops
 |_=>#[]
theorem aAT:Tryz.f77.body=some c29:=rfl
theorem aBy:mX Tryz.prog 77:=by
 intro args w
 have h5:¬ Tryz.f77.name= "runtime.NumGoroutine":=by decide
 simp[callFunc,Tryz.func77,h5,aAT]
theorem aYa:c29=.seq (aDY c29) (.seq (.region 1 o29 false) (.seq (aDY (aB0 (aB0 c29))) .ret)):=by kernel_rfl
theorem a78:cmp 9 (fun _=>aJM) (aDY c29)=a8Y:=by kernel_rfl
theorem a6s:cmp 9 (fun _=>aJM) (aDY (aB0 (aB0 c29)))=a9Y:=by kernel_rfl
def M5(C:Ctx)(zs:List A)(H:aG):Option (A×aG) :=
 match bH C.T (bA C 60) (bA.callO C 60) 60 a8Y ⟨iR 0 zs,H⟩with
 |some (.go,s1)=>match cI s1.env 4,cI s1.env 5 with
  |some (.ptr _ 0),none=>match bH C.T (bA C 60) (bA.callO C 60) 60 a9Y s1 with
   |some (.go,s2)=>match dF C.T s2 [.cell 4 4]with
    |some x=>bif Nat.ble zs.length 9 then some (x,s2.H)else none
    |none=>none
   |_=>none
  |_,_=>none
 |_=>none
theorem aDV{C:Ctx}(hC:kG Tryz.prog C){zs:List A}{H H':aG}{x:A}(h:M5 C zs H=some (x,H')):q8 C.T Tryz.prog 77 zs H x H':=by
 obtain⟨hQ,hO⟩:=jB hC 60
 refine .inr ⟨aBy,fun c ys hH ok hr=>?_⟩
 unfold M5 at h
 split at h
 ·rename_i s1 h0
  split at h
  ·rename_i b hp hn
   split at h
   ·rename_i s2 h2
    split at h
    ·rename_i x' hres
     cases hlen:Nat.ble zs.length 9 with
     |false=>simp[hlen]at h
     |true =>
      simp only[hlen,cond_true,Option.some.injEq,Prod.mk.injEq]at h
      obtain⟨rfl,rfl⟩:=h
      have hlen:=Nat.le_of_ble_eq_true hlen
      have hl:=hr.length
      have henv:cF c (iR 0 zs) { tmps:=ys.toArray++Array.replicate (Tryz.f77.ntmps-ys.toArray.size) undef,defers:=[] }:=by
       intro t z hz
       obtain⟨-,hz'⟩:=qO zs 0 t z hz
       obtain⟨y,hy,hzr⟩:=hr.get (t-0) z hz'
       have hy':(ys.toArray++Array.replicate (Tryz.f77.ntmps-ys.toArray.size) undef)[t]?=some y:=by
        rw[Array.getElem?_append_left (by simpa using (List.getElem?_eq_some_iff.1 hy).1)]
        simpa using hy
       simp only[Array.getD_eq_getD_getElem?,hy',Option.getD_some]
       exact hzr
      have hsz:(ys.toArray++Array.replicate (Tryz.f77.ntmps-ys.toArray.size) undef).size=9:=by
       rw[Tryz.ntmps77]
       simp
       omega
      refine(callsIn_wide (n:=0)).1 (callsIn_of_wp_marks (fn:=Tryz.f77) (c:=c29) Tryz.func77 aAT trivial ?_)
      have hwd:Fence.wide=Wd none:=rfl
      rw[hwd,aYa]
      refine wpIn_seq (mQ hC.mixed hC.types hC.loops hQ hO 60 _ _ _ _ (by rw[a78];exact h0) c _ _ hH ok henv hsz (fun l hl=>by cases hl) ?_)
      intro a1 c1 ds1 k1 k2 k3 k4 k5 k6 k7
      refine wpIn_seq ?_
      obtain⟨q1,q2,ho,e1,e2,e3,e4,e5,e6⟩:∃ q1 q2:Oper,o29=#[q1,q2]∧q1.op=.makeFunc (.func 145) #[] #[.tmp 4]∧q1.dst=some 5∧q1.guard=none∧q2.op=.defer { callee:=.value (.tmp 5),args:=#[],argTypes:=#[] }∧q2.dst=none∧q2.guard=none:=⟨_,_,rfl,rfl,rfl,rfl,rfl,rfl,rfl⟩
      rw[ho]
      refine wpIn_region_list ?_
      have hp4:=k4 4 _ hp
      rw[R]at hp4
      obtain⟨g,hg,hpv,-⟩:=hp4
      refine wpListIn_plain e3 fun K hK=>?_
      have hr1:(execOp a1.eval q1).run Tryz.prog c1.w=.ok (.value (.func (.func 145) #[] #[.pointer (some ⟨g,0,none⟩)])) c1.w:=by
       simp only[execOp,e1]
       simp[Instr.makeFunc,Act.eval,hpv]
      have hs1:q1.semAt (Wd none).round a1.eval=execOp a1.eval q1:=by
       unfold Oper.semAt
       rw[e1]
       rfl
      refine⟨fun f _=>Wd.fn _ f,?_⟩
      rw[hs1,hr1]
      show K (a1.put q1.dst _) c1.w
      refine hK _ _ ?_
      refine wpListIn_plain e6 fun K2 hK2=>?_
      rw[e2]
      have ha5:(a1.put (some 5) (.func (.func 145) #[] #[.pointer (some ⟨g,0,none⟩)])).eval (.tmp 5)=.func (.func 145) #[] #[.pointer (some ⟨g,0,none⟩)]:=by
       simp[Act.put,Act.eval,k5]
      have hr2:(execOp (a1.put (some 5) (.func (.func 145) #[] #[.pointer (some ⟨g,0,none⟩)])).eval q2).run Tryz.prog c1.w=.ok (.defer { target:=.fn (.func 145) #[.pointer (some ⟨g,0,none⟩)],args:=#[] }) c1.w:=by
       simp only[execOp,e4,resolve,ha5]
       simp[Deferred.ofValue]
      have hs2:q2.semAt (Wd none).round (a1.put (some 5) (.func (.func 145) #[] #[.pointer (some ⟨g,0,none⟩)])).eval=execOp (a1.put (some 5) (.func (.func 145) #[] #[.pointer (some ⟨g,0,none⟩)])).eval q2:=by
       unfold Oper.semAt
       rw[e4]
       rfl
      refine⟨fun f _=>Wd.fn _ f,?_⟩
      rw[hs2,hr2]
      refine hK2 _ _ (wpListIn_nil ?_)
      have k4':cF c1 s1.env (({ a1.put (some 5) (.func (.func 145) #[] #[.pointer (some ⟨g,0,none⟩)])with defers:={ target:=.fn (.func 145) #[.pointer (some ⟨g,0,none⟩)],args:=#[] }::a1.defers }:Act).put q2.dst undef):=by
       intro t z hz
       have hne:t≠5:=by
        rintro rfl
        rw[hn]at hz
        cases hz
       have:=k4 t z hz
       rw[e5]
       simpa[Act.put,Array.getD_eq_getD_getElem?,Array.getElem?_setIfInBounds_ne (Ne.symm hne)]using this
      refine wpIn_seq (mQ hC.mixed hC.types hC.loops hQ hO 60 _ _ _ _ (by rw[a6s];exact h2) c1 _ _ k1 k3 k4' (by rw[e5];simp[Act.put,k5]) (fun l hl=>by cases hl) ?_)
      intro a2 c2 ds2 j1 j2 j3 j4 j5 j6 j7
      refine wpIn_ret ?_
      show LeavesInM (Wd none) 0 Tryz.prog Tryz.f77 a2.tmps _ a2.defers .returning c2.w
      have hd:(({ a1.put (some 5) (.func (.func 145) #[] #[.pointer (some ⟨g,0,none⟩)])with defers:={ target:=.fn (.func 145) #[.pointer (some ⟨g,0,none⟩)],args:=#[] }::a1.defers }:Act).put q2.dst undef).defers={ target:=.fn (.func 145) #[.pointer (some ⟨g,0,none⟩)],args:=#[] }::ds1:=by
       rw[e5]
       show _::a1.defers=_
       rw[k6]
       simp
      have hm12:f7 c c2 (ds2++ds1):=k7.app k2 j2 j7
      have hl:=wS (P:=Tryz.prog) (fn:=Tryz.f77) (fc:=145) (cap:=#[.pointer (some ⟨g,0,none⟩)]) (args:=#[]) hC.types (fun w=>by simp[invoke]) (fun w=>by simpa using aU2 ⟨g,0,none⟩ w) (k2.trans j2) hres hm12 j3 j1 j4
      have j6':a2.defers=ds2++{ target:=.fn (.func 145) #[.pointer (some ⟨g,0,none⟩)],args:=#[] }::ds1:=by rw[j6];exact congrArg (ds2++·) hd
      rw[j6']
      exact hl
    ·cases h
   ·cases h
  ·cases h
 ·cases h
end Go.Proofs.YtpdphobnchajbaaGreatDoor.Ev
namespace Go.Proofs
open Go.Shelf
def Tryz.lays156_ren:Go.Shelf.Ren:=⟨fun|156=>155|165=>208|166=>51|169=>53|240=>96|241=>270|276=>156|277=>322|n=>n,fun|31=>22|9=>9|3=>3|4=>4|0=>0|20=>20|72=>146|76=>151|70=>144|37=>23|75=>150|127=>217|164=>267|5=>5|80=>154|n=>n,fun|n=>n⟩
theorem Tryz.lays156:Go.Proofs.Lays.n156 Tryz.prog Tryz.lays156_ren:={
 mixed:=by kernel_rfl
 f156:=Tryz.func155.trans (congrArg some (by kernel_rfl))
 f165:=Tryz.func208.trans (congrArg some (by kernel_rfl))
 f166:=Tryz.func51.trans (congrArg some (by kernel_rfl))
 f169:=Tryz.func53.trans (congrArg some (by kernel_rfl))
 f240:=Tryz.func96.trans (congrArg some (by kernel_rfl))
 f241:=Tryz.func270.trans (congrArg some (by kernel_rfl))
 f276:=Tryz.func156.trans (congrArg some (by kernel_rfl))
 f277:=Tryz.func322.trans (congrArg some (by kernel_rfl))
 t0:=Tryz.underlying0
 a0:=Tryz.isAgg0
 z0:=Tryz.sizeOf0
 v0:=Tryz.zeroValue0
 t3:=Tryz.underlying3
 a3:=Tryz.isAgg3
 z3:=Tryz.sizeOf3
 v3:=Tryz.zeroValue3
 t4:=Tryz.underlying4
 a4:=Tryz.isAgg4
 z4:=Tryz.sizeOf4
 v4:=Tryz.zeroValue4
 t9:=Tryz.underlying9
 a9:=Tryz.isAgg9
 z9:=Tryz.sizeOf9
 v9:=Tryz.zeroValue9
 t20:=Tryz.underlying20
 a20:=Tryz.isAgg20
 z20:=Tryz.sizeOf20
 v20:=Tryz.zeroValue20
 t31:=Tryz.underlying22
 a31:=Tryz.isAgg22
 z31:=Tryz.sizeOf22
 v31:=Tryz.zeroValue22
 t37:=Tryz.underlying23
 a37:=Tryz.isAgg23
 z37:=Tryz.sizeOf23
 v37:=Tryz.zeroValue23
 t70:=Tryz.underlying144
 a70:=Tryz.isAgg144
 z70:=Tryz.sizeOf144
 v70:=Tryz.zeroValue144
 t72:=Tryz.underlying146
 a72:=Tryz.isAgg146
 z72:=Tryz.sizeOf146
 v72:=Tryz.zeroValue146
 t75:=Tryz.underlying150
 a75:=Tryz.isAgg150
 z75:=Tryz.sizeOf150
 v75:=Tryz.zeroValue150
 t76:=Tryz.underlying151
 a76:=Tryz.isAgg151
 z76:=Tryz.sizeOf151
 v76:=Tryz.zeroValue151
 t127:=Tryz.underlying217
 a127:=Tryz.isAgg217
 z127:=Tryz.sizeOf217
 v127:=Tryz.zeroValue217
 t164:=Tryz.underlying267
 a164:=Tryz.isAgg267
 z164:=Tryz.sizeOf267
 v164:=Tryz.zeroValue267 }
theorem Tryz.Builder_Extra_156:Builder.Extra Tryz.prog Tryz.lays156_ren:={
 sizeBuilder:=by kernel_rfl
 liesBuilder:=by kernel_rfl
 t5:=Tryz.underlying5
 a5:=Tryz.isAgg5
 z5:=Tryz.sizeOf5
 v5:=Tryz.zeroValue5
 infoByte:=by kernel_rfl
 cellsByte:=by kernel_rfl
 sizeByte:=by kernel_rfl
 neB5:=by decide }
open Go.RowKit in
theorem Tryz.strings_Join_none(a:Option Addr)(c:Nat)(sep:ByteArray)(w:World) :
  Calls Tryz.prog 155 #[.slice a 0 c,.string sep] w fun e w'=>e=.returned (.string ⟨#[]⟩)∧w'=w:=Any.strings_Join_none Tryz.lays156 Tryz.Builder_Extra_156 a c sep w
open Go.RowKit in
theorem Tryz.strings_Join(bk o c:Nat)(xs:List ByteArray)(sep:ByteArray)(w:World)(hcells:∀(j:Nat) x,xs[j]?=some x→w.cell? ⟨bk,o+j,none⟩=some (.string x))(hbk:bk<w.heap.size)(hN:xs.length≤140737488355328)(hcap:xs.length≤c)(hlen:(Lib.join (xs.map (·.data.toList)) sep.data.toList).length≤140737488355328) :
  Calls Tryz.prog 155 #[.slice (some ⟨bk,o,none⟩) xs.length c,.string sep] w fun e w'=>e=.returned (.string ⟨(Lib.join (xs.map (·.data.toList)) sep.data.toList).toArray⟩)∧Below w.heap.size w w':=Any.strings_Join Tryz.lays156 Tryz.Builder_Extra_156 bk o c xs sep w hcells hbk hN hcap hlen
def Tryz.laysM171_ren:Go.Shelf.Ren:=⟨fun|171=>90|243=>152|246=>207|283=>266|284=>267|285=>268|286=>269|129=>318|317=>317|318=>319|319=>320|320=>321|337=>345|338=>346|n=>n,fun|3=>3|9=>9|2=>2|4=>4|171=>378|0=>0|53=>47|37=>23|5=>5|173=>381|212=>409|51=>410|20=>20|213=>411|46=>260|232=>446|233=>447|n=>n,fun|17=>5|18=>8|19=>9|n=>n⟩
theorem Tryz.laysM171:Go.Proofs.LaysM.n171 Tryz.prog Tryz.laysM171_ren:={
 mixed:=by kernel_rfl
 f129:=Tryz.func318.trans (congrArg some (by kernel_rfl))
 f171:=Tryz.func90.trans (congrArg some (by kernel_rfl))
 f243:=Tryz.func152.trans (congrArg some (by kernel_rfl))
 f246:=Tryz.func207.trans (congrArg some (by kernel_rfl))
 f283:=Tryz.func266.trans (congrArg some (by kernel_rfl))
 f284:=Tryz.func267.trans (congrArg some (by kernel_rfl))
 f285:=Tryz.func268.trans (congrArg some (by kernel_rfl))
 f286:=Tryz.func269.trans (congrArg some (by kernel_rfl))
 f317:=Tryz.func317.trans (congrArg some (by kernel_rfl))
 f318:=Tryz.func319.trans (congrArg some (by kernel_rfl))
 f319:=Tryz.func320.trans (congrArg some (by kernel_rfl))
 f320:=Tryz.func321.trans (congrArg some (by kernel_rfl))
 f337:=Tryz.func345.trans (congrArg some (by kernel_rfl))
 f338:=Tryz.func346.trans (congrArg some (by kernel_rfl))
 t0:=Tryz.underlying0
 a0:=Tryz.isAgg0
 z0:=Tryz.sizeOf0
 v0:=Tryz.zeroValue0
 t2:=Tryz.underlying2
 a2:=Tryz.isAgg2
 z2:=Tryz.sizeOf2
 v2:=Tryz.zeroValue2
 t3:=Tryz.underlying3
 a3:=Tryz.isAgg3
 z3:=Tryz.sizeOf3
 v3:=Tryz.zeroValue3
 t4:=Tryz.underlying4
 a4:=Tryz.isAgg4
 z4:=Tryz.sizeOf4
 v4:=Tryz.zeroValue4
 t5:=Tryz.underlying5
 a5:=Tryz.isAgg5
 z5:=Tryz.sizeOf5
 v5:=Tryz.zeroValue5
 t9:=Tryz.underlying9
 a9:=Tryz.isAgg9
 z9:=Tryz.sizeOf9
 v9:=Tryz.zeroValue9
 t20:=Tryz.underlying20
 a20:=Tryz.isAgg20
 z20:=Tryz.sizeOf20
 v20:=Tryz.zeroValue20
 t37:=Tryz.underlying23
 a37:=Tryz.isAgg23
 z37:=Tryz.sizeOf23
 v37:=Tryz.zeroValue23
 t46:=Tryz.underlying260
 a46:=Tryz.isAgg260
 z46:=Tryz.sizeOf260
 v46:=Tryz.zeroValue260
 t51:=Tryz.underlying410
 a51:=Tryz.isAgg410
 z51:=Tryz.sizeOf410
 v51:=Tryz.zeroValue410
 t53:=Tryz.underlying47
 a53:=Tryz.isAgg47
 z53:=Tryz.sizeOf47
 v53:=Tryz.zeroValue47
 t171:=Tryz.underlying378
 a171:=Tryz.isAgg378
 z171:=Tryz.sizeOf378
 v171:=Tryz.zeroValue378
 t173:=Tryz.underlying381
 a173:=Tryz.isAgg381
 z173:=Tryz.sizeOf381
 v173:=Tryz.zeroValue381
 t212:=Tryz.underlying409
 a212:=Tryz.isAgg409
 z212:=Tryz.sizeOf409
 v212:=Tryz.zeroValue409
 t213:=Tryz.underlying411
 a213:=Tryz.isAgg411
 z213:=Tryz.sizeOf411
 t232:=Tryz.underlying446
 a232:=Tryz.isAgg446
 z232:=Tryz.sizeOf446
 v232:=Tryz.zeroValue446
 t233:=Tryz.underlying447
 a233:=Tryz.isAgg447
 z233:=Tryz.sizeOf447
 v233:=Tryz.zeroValue447
 g17:=by kernel_rfl
 g18:=by kernel_rfl
 g19:=by kernel_rfl
 i0:=by kernel_rfl
 i2:=by kernel_rfl
 i3:=by kernel_rfl
 i4:=by kernel_rfl
 i5:=by kernel_rfl
 i9:=by kernel_rfl
 i20:=by kernel_rfl
 i37:=by kernel_rfl
 i46:=by kernel_rfl
 i51:=by kernel_rfl
 i53:=by kernel_rfl
 i171:=by kernel_rfl
 i173:=by kernel_rfl
 i212:=by kernel_rfl
 i232:=by kernel_rfl
 i233:=by kernel_rfl
 m17:=by kernel_rfl
 m18:=by kernel_rfl
 m19:=by kernel_rfl }
open Go.RowKit Go.Sort Go.Lib in
theorem Tryz.strconv_Itoa(n:Int)(h0:-9223372036854775808≤n)(h1:n≤9223372036854775807)(w:World)(htab:Lib.TabIs Tryz.prog w "internal/strconv.uint64pow10" .u64 Lib.pow10Tab) :
  Calls Tryz.prog 90 #[.int .i64 n] w fun e w'=>e=.returned (.string ⟨(Lib.itoa n).toArray⟩)∧∃ k os,w'=grow (w.drewN k) os:=Any.strconv_Itoa Tryz.laysM171 n h0 h1 w htab
end Go.Proofs
namespace Go.Proofs.YtpdphobnchajbaaGreatDoor.Ev
open Go Go.RowKit Go.Shelf
theorem IZ{w:World}{g:Nat}{cur:Array Value}{e:TypeId}{fz:Nat×Nat}(h:w.heap[g]?=some (.cells cur e fz))(v:Value):w.setCell ⟨g,0,none⟩ v=w.setRow g (cur.setIfInBounds 0 v):=by
 unfold World.setCell World.setRow
 congr 1
 apply Array.ext_getElem?
 intro i
 rw[Array.getElem?_modify,Array.getElem?_modify]
 split
 ·rename_i hi
  have hi:g=i:=hi
  subst hi
  rw[h]
  rfl
 ·rfl
theorem aDz:mX Tryz.prog 96:=by
 intro args w
 have h5:¬ Tryz.f96.name= "runtime.NumGoroutine":=by decide
 have h6:∃ code,Tryz.f96.body=some code:=⟨_,rfl⟩
 obtain⟨code,h6⟩:=h6
 simp[callFunc,Tryz.func96,h5,h6]
def ccO(zs:List A)(H:aG):Option (A×aG):=match zs with
 |[.ptr b 0]=>match H[b]? with
  |some (some k)=>bif Nat.beq k.e 146&&k.whole then match k.cs with
   |[.v (.pointer none),u]=>some (.tup [],H.set b (some ⟨k.e,[.ptr b 0,u],k.whole⟩))
   |[.ptr b' 0,_]=>bif Nat.beq b' b then some (.tup [],H)else none
   |_=>none
   else none
  |_=>none
 |_=>none
theorem a8P{T:Tb}{zs:List A}{H H':aG}{x:A}(h:ccO zs H=some (x,H')):q8 T Tryz.prog 96 zs H x H':=by
 refine .inr ⟨aDz,fun c ys hH ok hr=>?_⟩
 subst hH
 unfold ccO at h
 split at h
 ·rename_i b
  split at h
  ·rename_i k hb
   cases hbe:(Nat.beq k.e 146&&k.whole)with
   |false=>simp[hbe]at h
   |true =>
    simp only[hbe,cond_true]at h
    simp only[Bool.and_eq_true]at hbe
    obtain⟨hke,hkw⟩:=hbe
    have hke:=Nat.eq_of_beq_eq_true hke
    obtain⟨y,rfl,hy⟩:=hr.single
    have hy':=hy
    rw[R]at hy
    obtain⟨g,hg,rfl,cur0,e0,fz0,hcur0⟩:=hy
    obtain⟨cur,xs,hcur,hxs,hpre,hwh⟩:=ok.cells (e:=k.e) (cs:=k.cs) (wh:=k.whole) hb hg hcur0
    split at h
    ·rename_i u hcs
     simp only[Option.some.injEq,Prod.mk.injEq]at h
     obtain⟨rfl,rfl⟩:=h
     rw[hcs]at hxs hwh
     rw[RL]at hxs
     obtain⟨x0,xr,rfl,hx0,hxs⟩:=hxs
     rw[R]at hx0
     subst hx0
     obtain⟨x1,rfl,hx1⟩:=hxs.single
     have hsz:cur.size=2:=by simpa using hwh hkw
     have hcu:cur=#[.pointer none,x1]:=by
      obtain⟨t,ht⟩:=hpre
      apply Array.ext'
      have:t=[]:=by
       have:=congrArg List.length ht
       simp[hsz]at this
       exact this
      subst this
      simpa using ht.symm
     subst hcu
     rw[hke]at hcur
     refine(Any.Builder_copyCheck_fresh { Tryz.lays156 with } Tryz.Builder_Extra_156.toX72 g c.w ?_ ?_ ?_).mono ?_
     ·rw[cell_of_row c.w g 0 _ _ _ hcur]
      rfl
     ·show c.w.shape? g=some (146,2)
      simp[World.shape?,hcur]
     ·simp[World.frozen?,hcur]
     ·rintro e w' ⟨rfl,rfl⟩
      rw[← hke]at hcur
      obtain⟨c',k1,k2,k3,k4,k5⟩:=OU (cs':=[.ptr b 0,u]) (cur':=#[.pointer (some ⟨g,0,none⟩),x1]) (xs':=[.pointer (some ⟨g,0,none⟩),x1]) ok hb hg hcur (RL.cons hy' hxs) (by simp) rfl (fun _=>rfl)
      refine⟨_,c',rfl,?_,k1,k3,k4,?_⟩
      ·rw[k2,IZ hcur]
       rfl
      ·rw[R]
       exact⟨[],rfl,RL.nil⟩
    ·rename_i b' u hcs
     cases hbb:Nat.beq b' b with
     |false=>simp[hbb]at h
     |true =>
      obtain rfl:=Nat.eq_of_beq_eq_true hbb
      simp only[hbb,cond_true,Option.some.injEq,Prod.mk.injEq]at h
      obtain⟨rfl,rfl⟩:=h
      rw[hcs]at hxs
      rw[RL]at hxs
      obtain⟨x0,xr,rfl,hx0,hxs⟩:=hxs
      rw[R]at hx0
      obtain⟨g',hg',rfl,-⟩:=hx0
      obtain rfl:=Option.some.inj (hg.symm.trans hg')
      refine(Any.Builder_copyCheck_used { Tryz.lays156 with } Tryz.Builder_Extra_156.toX72 g c.w ?_).mono ?_
      ·rw[cell_of_row c.w g 0 _ _ _ hcur]
       obtain⟨t,ht⟩:=hpre
       rw[← Array.getElem?_toList,← ht]
       rfl
      ·rintro e w' ⟨rfl,rfl⟩
       refine⟨_,c,rfl,rfl,rfl,To.refl c,ok,?_⟩
       rw[R]
       exact⟨[],rfl,RL.nil⟩
    ·cases h
  ·cases h
 ·cases h
theorem C6{P:Program}{f:FuncId}{fn:Func}{code:Code}(h1:P.funcs[f]?=some fn)(h2:fn.body=some code)(h5:¬ fn.name= "runtime.NumGoroutine"):mX P f:=by
 intro args w
 simp[callFunc,h1,h5,h2]
def BY:List A→Option (List ByteArray)
 |[]=>some []
 |.v (.string s)::l=>match BY l with
  |some r=>some (s::r)
  |none=>none
 |_=>none
theorem HH{ρ:List Nat}{own:Nat→Prop}{w:World}:∀{cs:List A} {xs:List ByteArray} {ys:List Value},BY cs=some xs→RL ρ own w cs ys→ys=xs.map .string
 |[],xs,ys,h,hr=>by
  rw[RL]at hr
  simp only[BY,Option.some.injEq]at h
  subst h
  exact hr
 |c::cs,xs,ys,h,hr=>by
  rw[RL]at hr
  obtain⟨y,zs,rfl,h1,h2⟩:=hr
  unfold BY at h
  split at h
  ·rename_i heq
   cases heq
  ·rename_i s l heq
   injection heq with e1 e2
   subst e1
   subst e2
   split at h
   ·rename_i r hr'
    obtain rfl:=Option.some.inj h
    rw[R]at h1
    subst h1
    rw[HH hr' h2]
    rfl
   ·cases h
  ·cases h
def aDF:List A→Option A
 |[.sl n cs,.v (.string sep)]=>match BY cs with
  |some xs=>bif Nat.beq xs.length n&&Nat.ble n 140737488355328&&Nat.ble (Lib.join (xs.map (·.data.toList)) sep.data.toList).length 140737488355328 then some (.v (.string ⟨(Lib.join (xs.map (·.data.toList)) sep.data.toList).toArray⟩))else none
  |none=>none
 |_=>none
def E1(T:Tb)(P:Program)(f:FuncId)(zs:List A)(r:A):Prop:=∀(own:Nat→Prop) (w:World) (ys:List Value),(∀ g,own g→g<w.heap.size)→Gl T.gl own w→RL [] own w zs ys →
 Go.Calls P f ys.toArray w fun e w'=>∃ v,e=.returned v∧Grow w w'∧R [] own w' r v
theorem aGw{T:Tb}{zs:List A}{r:A}(h:aDF zs=some r):E1 T Tryz.prog 155 zs r:=by
 intro own w ys _ _ hr
 unfold aDF at h
 split at h
 ·rename_i n cs sep
  split at h
  ·rename_i xs hxs
   cases hc:(Nat.beq xs.length n&&Nat.ble n 140737488355328&&Nat.ble (Lib.join (xs.map (·.data.toList)) sep.data.toList).length 140737488355328)with
   |false=>simp[hc]at h
   |true =>
    simp only[hc,cond_true,Option.some.injEq]at h
    subst h
    simp only[Bool.and_eq_true]at hc
    obtain⟨⟨h1,h2⟩,h3⟩:=hc
    obtain rfl:=Nat.eq_of_beq_eq_true h1
    have h2:=Nat.le_of_ble_eq_true h2
    have h3:=Nat.le_of_ble_eq_true h3
    rw[RL]at hr
    obtain⟨y1,ys1,rfl,hr1,hr2⟩:=hr
    obtain⟨y2,rfl,hr3⟩:=hr2.single
    rw[R]at hr3
    subst hr3
    rw[R]at hr1
    rcases hr1 with⟨hl,rfl,ad,cap,rfl⟩|⟨g,off,cap,vs,rfl,hcap,hg,-,hvs,hlie⟩
    ·simp only[BY,Option.some.injEq]at hxs
     subst hxs
     refine(Tryz.strings_Join_none ad cap sep w).mono ?_
     rintro e w' ⟨rfl,rfl⟩
     exact⟨_,rfl,Below.refl _ _,by rw[R];rfl⟩
    ·have hv:=HH hxs hvs
     refine(Tryz.strings_Join g off cap xs sep w (fun j x hx=>hlie j _ (by rw[hv];simp[hx])) hg h2 hcap h3).mono ?_
     rintro e w' ⟨rfl,hb⟩
     exact⟨_,rfl,hb,by rw[R]⟩
  ·cases h
 ·cases h
def dig(n:Nat):List UInt8:=bif Nat.blt n 10 then [UInt8.ofNat (48+n)]else bif Nat.blt n 100 then [UInt8.ofNat (48+n/10),UInt8.ofNat (48+n % 10)]else [UInt8.ofNat (48+n/100),UInt8.ofNat (48+n/10 % 10),UInt8.ofNat (48+n % 10)]
theorem a2T{n:Nat}(h:n<1000):Lib.decDigits n=dig n:=by
 unfold dig
 by_cases h1:n<10
 ·have:Nat.blt n 10=true:=by rw[Nat.blt_eq];exact h1
  rw[this,Lib.decDigits,dif_pos h1]
  rfl
 ·have h1':Nat.blt n 10=false:=by rw[Bool.eq_false_iff];intro h;rw[Nat.blt_eq]at h;exact h1 h
  rw[h1',cond_false,Lib.decDigits,dif_neg h1]
  by_cases h2:n<100
  ·have:Nat.blt n 100=true:=by rw[Nat.blt_eq];exact h2
   rw[this,cond_true,Lib.decDigits,dif_pos (by omega)]
   rfl
  ·have h2':Nat.blt n 100=false:=by rw[Bool.eq_false_iff];intro h;rw[Nat.blt_eq]at h;exact h2 h
   rw[h2',cond_false,Lib.decDigits,dif_neg (by omega),Lib.decDigits,dif_pos (by omega),Nat.div_div_eq_div_mul]
   rfl
def aAs:List A→Option A
 |[.v (.int .i64 n)]=>if 0≤n∧n<1000 then some (.v (.string ⟨(dig n.toNat).toArray⟩))else none
 |_=>none
theorem aKu{T:Tb}(h10:T.gl.tab 5=some (Lib.pow10Tab.map fun z=>.int .u64 z)){zs:List A}{r:A}(h:aAs zs=some r):E1 T Tryz.prog 90 zs r:=by
 intro own w ys _ hgl hr
 unfold aAs at h
 split at h
 ·rename_i n
  split at h
  ·rename_i hn
   obtain rfl:=Option.some.inj h
   obtain⟨y,rfl,hy⟩:=hr.single
   rw[R]at hy
   subst hy
   obtain⟨-,-,-,e0,fz,hcells⟩:=hgl.1 _ _ h10
   have htab:Lib.TabIs Tryz.prog w "internal/strconv.uint64pow10" .u64 Lib.pow10Tab:=by
    unfold Lib.TabIs World.var?
    rw[show Tryz.prog.globalNamed "internal/strconv.uint64pow10"=some 5 by kernel_rfl,Option.bind_some,hcells]
   refine(Tryz.strconv_Itoa n (by omega) (by omega) w htab).mono ?_
   rintro e w' ⟨rfl,k,os,rfl⟩
   refine⟨_,rfl,?_,?_⟩
   ·refine { os:=rfl,tape:=rfl,output:=rfl,size:=?_,block:=fun j hj=>?_ }
    ·show w.heap.size≤(w.heap++os).size
     simp
    ·show(w.heap++os)[j]?=w.heap[j]?
     exact Array.getElem?_append_left hj
   ·rw[R]
    have hneg:¬ n<0:=by omega
    simp only[Lib.itoa,hneg,if_false]
    rw[a2T (by omega)]
  ·cases h
 ·cases h
def WR(f:FuncId)(zs:List A):Option A :=
 bif Nat.beq f 155 then aDF zs else bif Nat.beq f 90 then aAs zs else none
theorem R7{T:Tb}{P:Program}{f:FuncId}{zs:List A}{r:A}(he:mX P f)(h:E1 T P f zs r):O8 P f zs r∨mX P f∧E1 T P f zs r:=.inr ⟨he,h⟩
theorem aCW{T:Tb}(h10:T.gl.tab 5=some (Lib.pow10Tab.map fun z=>.int .u64 z)):QOk T Tryz.prog WR:=by
 intro f zs r h
 unfold WR at h
 cases h1:Nat.beq f 155 with
 |true =>
  obtain rfl:=Nat.eq_of_beq_eq_true h1
  rw[h1,cond_true]at h
  exact R7 (C6 Tryz.func155 rfl (by decide)) (aGw h)
 |false =>
  rw[h1,cond_false]at h
  cases h2:Nat.beq f 90 with
  |true =>
   obtain rfl:=Nat.eq_of_beq_eq_true h2
   rw[h2,cond_true]at h
   exact R7 (C6 Tryz.func90 rfl (by decide)) (aKu h10 h)
  |false =>
   rw[h2,cond_false]at h
   cases h
def ML(f:FuncId):Option (List A→aG→Option (A×aG)):=bif Nat.beq f 96 then some ccO else none
theorem ZQ{T:Tb}:∀ f g zs H x H',ML f=some g→g zs H=some (x,H')→q8 T Tryz.prog f zs H x H':=by
 intro f g zs H x H' hg h
 unfold ML at hg
 cases h1:Nat.beq f 96 with
 |true =>
  obtain rfl:=Nat.eq_of_beq_eq_true h1
  rw[h1,cond_true]at hg
  obtain rfl:=Option.some.inj hg
  exact a8P h
 |false=>simp[h1]at hg
def bDr(_:Nat):Bool:=false
end Go.Proofs.YtpdphobnchajbaaGreatDoor.Ev
