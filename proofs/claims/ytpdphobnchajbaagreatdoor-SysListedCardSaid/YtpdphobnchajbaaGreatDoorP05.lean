/- The frame of every law of this work: what a law's contract ('it returns true, and nothing that was there has changed') gives for its row; and a struct of five one-cell fields opened. -/
import Derived.Test.YtpdphobnchajbaaGreatDoorRows
import Derived.WalkKit
import Derived.ProofKit
import Derived.OpenShut
import Derived.Lib.SmallJoins
import Derived.Deep.DeepHandedRow
import Derived.Lib.LaidTab
import Derived.Test.YtpdphobnchajbaaGreatDoorP01
import Derived.SizedLaws
import Derived.Test.YtpdphobnchajbaaGreatDoorP03
import Derived.LaidByTextLater
import Derived.Test.YtpdphobnchajbaaGreatDoorChecked
import Derived.Lib.Bytealg
import Derived.Laws.StandIn
import Derived.RecoverIn
import Derived.Lib.Builder
set_option linter.unusedSimpArgs false
set_option linter.unusedVariables false
namespace Go.Proofs.YtpdphobnchajbaaGreatDoor
open Go.ChangeShapes Go.WideShapes Go.ChangeAt Go.RowKit Go.Joins Go.Deep
section
variable{H:Type}{enc:TypeId×Value→H}{P:Program}
theorem trodAll_below{W W':World}(hl:laidOutB P=true)(hb:Below W.heap.size W W'):∀(ts:List TypeId) (vs:List Value) (ds:List (DataW H)) (p:List MemPlace),ts.all (fun t=>P.readableRec t&&decide (t<P.types.size))=true →
  DataW.TrodAll enc P W 0 (fun _=>true) true ts vs ds p→(∀ x∈p,x.block<W.heap.size)→DataW.TrodAll enc P W' 0 (fun b=>decide (b<W.heap.size)) true ts vs ds p
 |[],[],[],_,_,h,_=>h
 |[],[],_::_,_,_,h,_=>h.elim
 |[],_::_,_,_,_,h,_=>h.elim
 |_::_,[],_,_,_,h,_=>h.elim
 |_::_,_::_,[],_,_,h,_=>h.elim
 |t::ts,v::vs,d::ds,_,hr,⟨p,q,h1,h2,e⟩,hlt=>by
  subst e
  simp only[List.all_cons,Bool.and_eq_true,decide_eq_true_eq]at hr
  exact⟨p,q,Below.trod hl hr.1.1 hr.1.2 h1 hb (fun x hx=>hlt x (List.mem_append_left _ hx)),trodAll_below hl hb ts vs ds q (by simpa using hr.2) h2 (fun x hx=>hlt x (List.mem_append_right _ hx)),rfl⟩
theorem law_post{f:Func}{s:ChangeSpec}{W W':World}{args:Array Value}{ds gs:List (DataW H)}{before:List MemPlace}{tb:TypeId}(hl:laidOutB P=true)(hps:f.params.toList.all (fun t=>P.readableRec t&&decide (t<P.types.size))=true)
  (hv:s.vars=[]) (hrt:f.resultTypes=#[tb]) (htb:P.underlying tb=some .bool) (hfn:(s.fn H (ds++[])).results=[.lit (.bool true)]∧(s.fn H (ds++[])).args=ds∧(s.fn H (ds++[])).vars=[])
  (hW:DataW.Whole enc P f.params.toList s.vars false W args.toList ds gs before) (hb:Below W.heap.size W W'):s.post enc P f false true false false W args (.bool true) W':=by
 have hlt:=hW.lt
 have hW0:=hW
 obtain⟨p,q,hA,hV,hpq,hfz,hnd⟩:=hW
 have hg:gs=[]∧q=[]:=by
  rw[hv]at hV
  cases gs with
  |nil=>exact⟨rfl,hV⟩
  |cons g gs=>exact hV.elim
 obtain⟨rfl,rfl⟩:=hg
 subst hpq
 refine⟨ds,[],_,[],p,[],hW0,?_,?_,?_,hb.frame _,fun h=>by cases h⟩
 ·rw[hfn.1,hrt]
  exact trodAll_mk1 (shut_bool htb true)
 ·rw[hfn.2.1]
  exact trodAll_below hl hb _ _ _ _ hps hA (fun x hx=>hlt x (by simp[hx]))
 ·rw[hfn.2.2,hv]
  rfl
variable{w:World}{base:Nat}{spare:Nat→Bool}{held:Bool}
end
inductive Sc where
 |int (k:IntKind)
 |bool
 |str
def Sc.fits:Sc→Value→Prop
 |.int k,v=>∃ x:Int,v=.int k x∧(Lit.int k x).wf=true
 |.bool,v=>∃ b:Bool,v=.bool b
 |.str,v=>∃ s:ByteArray,v=.string s∧s.size≤maxLen
def fieldsOf(P:Program)(F:TypeId→Option (List Sc)):List Field→Nat→Option (List Sc)
 |[],_=>some []
 |f::fs,off=>if f.offset=off then(F f.type).bind fun a=>if a.length=P.cellsOf f.type then(fieldsOf P F fs (off+a.length)).map (a++·)else none else none
def flat(P:Program):Nat→TypeId→Option (List Sc)
 |0,_=>none
 |n+1,t =>
  match P.underlying t with
  |some .bool=>some [.bool]
  |some (.int k)=>some [.int k]
  |some .string=>some [.str]
  |some (.struct fs)=>(fieldsOf P (flat P n) fs.toList 0).bind fun ks=>if ks.length=P.cellsOf t then some ks else none
  |some (.array k e)=>(flat P n e).bind fun a=>if a.length=P.cellsOf e∧k*a.length=P.cellsOf t then some (List.replicate k a).flatten else none
  |_=>none
section
variable{H:Type}{enc:TypeId×Value→H}{P:Program}{w:World}{base:Nat}{spare:Nat→Bool}{held:Bool}
end
theorem u8_bounds{x:Int}(h:(Lit.int .u8 x).wf=true):0≤x∧x≤255:=by
 have:=bounds_u8 h
 omega
end Go.Proofs.YtpdphobnchajbaaGreatDoor
namespace Go.Proofs.YtpdphobnchajbaaGreatDoor
open Go Go.RowKit Go.Proofs.YtpdphobnchajbaaGreatDoor.Ev
open Go.ChangeShapes Go.WideShapes Go.ChangeAt
inductive Sh where
 |sc (s:Sc)
 |sl (e:List Sh)
 |any
def oneV:Value→Bool
 |.slice _ _ _=>true
 |_=>false
mutual
def shFits:Sh→A→Prop
 |.sc s,a=>∃ x,a=.v x∧s.fits x
 |.sl e,a=>∃(l:List (List A)),a=.sl l.length l.flatten∧l.length≤reachBytes∧∀ c∈l,FitsA e c
 |.any,a=>∃ x,a=.v x∧oneV x=true
def FitsA:List Sh→List A→Prop
 |[],l=>l=[]
 |s::ks,l=>∃ a l',l=a::l'∧shFits s a∧FitsA ks l'
end
theorem fitsA_cons{s:Sh}{ks:List Sh}{l:List A}(h:FitsA (s::ks) l):∃ a l',l=a::l'∧shFits s a∧FitsA ks l':=by rwa [FitsA]at h
theorem fitsA_nil{l:List A}(h:FitsA [] l):l=[]:=by rwa [FitsA]at h
theorem sh_int{k:IntKind}{a:A}(h:shFits (.sc (.int k)) a):∃ x:Int,a=.v (.int k x)∧(Lit.int k x).wf=true:=by
 rw[shFits]at h
 obtain⟨x,rfl,n,rfl,hn⟩:=h
 exact⟨n,rfl,hn⟩
theorem sh_u8{a:A}(h:shFits (.sc (.int .u8)) a):∃ x:Int,a=.v (.int .u8 x)∧0≤x∧x≤255:=by
 obtain⟨x,h1,h2⟩:=sh_int h
 exact⟨x,h1,u8_bounds h2⟩
theorem sh_i64{a:A}(h:shFits (.sc (.int .i64)) a):∃ x:Int,a=.v (.int .i64 x)∧-9223372036854775808≤x∧x≤9223372036854775807:=by
 obtain⟨x,h1,h2⟩:=sh_int h
 refine⟨x,h1,?_⟩
 simp[Lit.wf,IntKind.min,IntKind.max,IntKind.signed,IntKind.bits]at h2
 omega
theorem sh_bool{a:A}(h:shFits (.sc .bool) a):∃ b:Bool,a=.v (.bool b):=by
 rw[shFits]at h
 obtain⟨x,rfl,n,rfl⟩:=h
 exact⟨n,rfl⟩
theorem sh_str{a:A}(h:shFits (.sc .str) a):∃ s:ByteArray,a=.v (.string s)∧s.size≤maxLen:=by
 rw[shFits]at h
 obtain⟨x,rfl,n,rfl,hn⟩:=h
 exact⟨n,rfl,hn⟩
theorem sh_sl{e:List Sh}{a:A}(h:shFits (.sl e) a):∃(l:List (List A)),a=.sl l.length l.flatten∧l.length≤reachBytes∧∀ c∈l,FitsA e c:=by rwa [shFits]at h
theorem lift_list{α β:Type}{p:α→Prop}{f:α→β}:∀{l:List β},(∀ c∈l,∃ x,p x∧c=f x)→∃ xs:List α,(∀ x∈xs,p x)∧l=xs.map f
 |[],_=>⟨[],by simp,rfl⟩
 |c::l,h=>by
  obtain⟨x,hx,rfl⟩:=h c (by simp)
  obtain⟨xs,h1,rfl⟩:=lift_list (l:=l) fun c hc=>h c (by simp[hc])
  exact⟨x::xs,by simpa using ⟨hx,h1⟩,rfl⟩
theorem fitsA_append:∀{a b:List Sh} {xs ys:List A},FitsA a xs→FitsA b ys→FitsA (a++b) (xs++ys)
 |[],_,xs,ys,h,h'=>by
  rw[FitsA]at h
  subst h
  exact h'
 |s::a,b,xs,ys,h,h'=>by
  rw[FitsA]at h
  obtain⟨x,xs',rfl,h1,h2⟩:=h
  rw[List.cons_append,FitsA]
  exact⟨x,xs'++ys,rfl,h1,fitsA_append h2 h'⟩
def fieldsS(P:Program)(F:TypeId→Option (List Sh)):List Field→Nat→Option (List Sh)
 |[],_=>some []
 |f::fs,off=>if f.offset=off then(F f.type).bind fun a=>if a.length=P.cellsOf f.type then(fieldsS P F fs (off+a.length)).map (a++·)else none else none
def flatS(P:Program):Nat→TypeId→Option (List Sh)
 |0,_=>none
 |n+1,t =>
  match P.underlying t with
  |some .bool=>some [.sc .bool]
  |some (.int k)=>some [.sc (.int k)]
  |some .string=>some [.sc .str]
  |some (.slice e)=>(flatS P n e).bind fun a=>if(a.length=P.cellsOf e∧0<a.length)∧0<P.bytesOf e then some [.sl a]else none
  |some (.struct fs)=>(fieldsS P (flatS P n) fs.toList 0).bind fun ks=>if ks.length=P.cellsOf t then some ks else none
  |some (.array k e)=>(flatS P n e).bind fun a=>if a.length=P.cellsOf e∧k*a.length=P.cellsOf t then some (List.replicate k a).flatten else none
  |_=>none
section
variable{H:Type}{enc:TypeId×Value→H}{P:Program}{w:World}{base:Nat}{spare:Nat→Bool}{held:Bool}
def Light(P:Program)(t:TypeId)(d:DataW H):Prop:=∀ n∈d.weights P t,n≤reachBytes
theorem weights_mem_all:∀{ds:List (DataW H)} {j:Nat} {d:DataW H} {e:TypeId},ds[j]?=some d→∀ n∈d.weights P e,n∈DataW.weightsAll P e ds
 |d0::ds,0,d,e,hd,n,hn=>by
  simp only[List.getElem?_cons_zero,Option.some.injEq]at hd
  subst hd
  simp only[DataW.weightsAll,List.mem_append]
  exact Or.inl hn
 |d0::ds,j+1,d,e,hd,n,hn=>by
  simp only[List.getElem?_cons_succ]at hd
  simp only[DataW.weightsAll,List.mem_append]
  exact Or.inr (weights_mem_all hd n hn)
 |[],_,_,_,hd,_,_=>by simp at hd
def Reads(w:World)(ks:List Sh)(cs:List Value):Prop:=∃ l,FitsA ks l∧RL [] (fun _=>False) w l cs
theorem Reads.append{a b:List Sh}{xs ys:List Value}(h:Reads w a xs)(h':Reads w b ys):Reads w (a++b) (xs++ys):=by
 obtain⟨l,h1,h2⟩:=h
 obtain⟨l',h3,h4⟩:=h'
 exact⟨l++l',fitsA_append h1 h3,RL.append h2 h4⟩
theorem Reads.nil:Reads w [] []:=⟨[],by rw[FitsA],RL.nil⟩
theorem Reads.one{s:Sc}{v:Value}(h:s.fits v):Reads w [.sc s] [v]:=by
 refine⟨[.v v],?_,RL.cons (by rw[R]) RL.nil⟩
 rw[FitsA]
 refine⟨_,_,rfl,?_,by rw[FitsA]⟩
 rw[shFits]
 exact⟨v,rfl,h⟩
theorem fields_reads{F:TypeId→Option (List Sh)}{n:Nat}{cs:List Value}(ih:∀ t ks,F t=some ks→∀(cs:List Value) (x:DataW H×List MemPlace),DataW.trod enc P w base spare held n t cs=some x→Light P t x.1→Reads w ks cs) :
  ∀(fs:List Field) (off:Nat) (ks:List Sh),fieldsS P F fs off=some ks→(∀ f∈fs,∃ x,DataW.trod enc P w base spare held n f.type ((cs.drop f.offset).take (P.cellsOf f.type))=some x∧Light P f.type x.1)→cs.length=off+ks.length→Reads w ks (cs.drop off)
 |[],off,ks,h,_,hl=>by
  simp only[fieldsS,Option.some.injEq]at h
  subst h
  rw[List.drop_eq_nil_of_le (by simp at hl;omega)]
  exact Reads.nil
 |f::fs,off,ks,h,hx,hl=>by
  simp only[fieldsS]at h
  split at h
  ·rename_i ho
   obtain⟨a,ha,h⟩:=Option.bind_eq_some_iff.1 h
   split at h
   ·rename_i hal
    obtain⟨r,hr,rfl⟩:=Option.map_eq_some_iff.1 h
    obtain⟨x,hx0,hx1⟩:=hx f (.head _)
    have h1:=ih f.type a ha _ _ hx0 hx1
    have h2:=fields_reads ih fs (off+a.length) r hr (fun g hg=>hx g (.tail _ hg)) (by rw[hl];simp;omega)
    have e:cs.drop off=(cs.drop off).take a.length++cs.drop (off+a.length):=by
     rw[← List.drop_drop,List.take_append_drop]
    rw[e]
    rw[ho,← hal]at h1
    exact h1.append h2
   ·cases h
  ·cases h
theorem rep_reads{a:List Sh}{cs:List Value}:∀(k off:Nat),(∀ i,i<k→Reads w a ((cs.drop (off+i*a.length)).take a.length))→cs.length=off+k*a.length→Reads w (List.replicate k a).flatten (cs.drop off)
 |0,off,_,hl=>by
  rw[List.drop_eq_nil_of_le (by simp at hl;omega)]
  exact Reads.nil
 |k+1,off,h,hl=>by
  have h0:=h 0 (by omega)
  have h1:=rep_reads k (off+a.length) (fun i hi=>by have:=h (i+1) (by omega);rwa [show off+a.length+i*a.length=off+(i+1)*a.length by rw[Nat.add_mul];omega]) (by rw[hl,Nat.add_mul];omega)
  have e:cs.drop off=(cs.drop off).take a.length++cs.drop (off+a.length):=by
   rw[← List.drop_drop,List.take_append_drop]
  rw[e,List.replicate_succ,List.flatten_cons]
  simp only[Nat.zero_mul,Nat.add_zero]at h0
  exact h0.append h1
theorem cells_get{b0:Nat}{a:Addr}{n:Nat}{cs:List Value}(h:w.cells? b0 a n=some cs):cs.length=n∧∀ i,i<n→w.cell? (a.add i)=cs[i]?:=by
 unfold World.cells? at h
 split at h
 ·exact⟨by simpa using mapM_some_length h,fun i hi=>mapM_some_get h i i (by simp[hi])⟩
 ·cases h
theorem elems_reads{a:List Sh}{ad:Addr}(ha:0<a.length):∀(len:Nat),(∀ i,i<len→∃ cs,w.cells? base (ad.add (i*a.length)) a.length=some cs∧Reads w a cs) →
  ∃(l:List (List A)) (xs:List Value),l.length=len∧(∀ c∈l,FitsA a c)∧RL [] (fun _=>False) w l.flatten xs∧xs.length=len*a.length∧∀ i,i<len*a.length→w.cell? ((ad.add (i/a.length*a.length)).add (i % a.length))=xs[i]?
 |0,_=>⟨[],[],rfl,by simp,RL.nil,by simp,by simp⟩
 |len+1,h=>by
  obtain⟨l,xs,h1,h2,h3,h4,h5⟩:=elems_reads ha len fun i hi=>h i (by omega)
  obtain⟨cs,h6,c,h7,h8⟩:=h len (by omega)
  obtain⟨h9,h10⟩:=cells_get h6
  refine⟨l++[c],xs++cs,by simp[h1],?_,?_,?_,?_⟩
  ·intro d hd
   rcases List.mem_append.1 hd with hd|hd
   ·exact h2 d hd
   ·rw[List.mem_singleton.1 hd];exact h7
  ·rw[List.flatten_append]
   simpa using RL.append h3 h8
  ·simp[h4,h9,Nat.add_mul]
  ·intro i hi
   rcases Nat.lt_or_ge i (len*a.length)with hlt|hge
   ·rw[h5 i hlt,List.getElem?_append_left (by omega)]
   ·have e1:i/a.length=len:=by
     rw[Nat.add_mul]at hi
     apply Nat.div_eq_of_lt_le
     ·exact hge
     ·rw[Nat.add_mul];omega
    have e2:i % a.length=i-len*a.length:=by
     have:=Nat.div_add_mod i a.length
     rw[e1,Nat.mul_comm]at this
     omega
    rw[e1,e2,h10 _ (by rw[Nat.add_mul]at hi;omega),List.getElem?_append_right (by omega),h4]
theorem flat_reads:∀(m:Nat) (t:TypeId) (ks:List Sh),flatS P m t=some ks→∀(fuel:Nat) (cs:List Value) (x:DataW H×List MemPlace),DataW.trod enc P w base spare held fuel t cs=some x→Light P t x.1→Reads w ks cs
 |0,_,_,h,_,_,_,_,_=>by simp[flatS]at h
 |m+1,t,ks,h,fuel,cs,x,hx,hlight=>by
  unfold flatS at h
  split at h
  ·rename_i ht
   obtain⟨b,rfl,-⟩:=DataW.trod_bool ht hx
   obtain rfl:=Option.some.inj h
   exact Reads.one ⟨b,rfl⟩
  ·rename_i k ht
   obtain⟨y,rfl,-,hw⟩:=DataW.trod_int ht hx
   obtain rfl:=Option.some.inj h
   exact Reads.one ⟨y,rfl,hw⟩
  ·rename_i ht
   obtain⟨s,rfl,-,hs⟩:=DataW.trod_string ht hx
   obtain rfl:=Option.some.inj h
   exact Reads.one ⟨s,rfl,hs⟩
  ·rename_i e ht
   obtain⟨a,ha,h⟩:=Option.bind_eq_some_iff.1 h
   split at h
   ·rename_i hlen0
    obtain⟨hlen,hbytes⟩:=hlen0
    obtain rfl:=Option.some.inj h
    have fin:∀(l:List (List A)) (v:Value),l.length≤reachBytes→(∀ c∈l,FitsA a c)→R [] (fun _=>False) w (.sl l.length l.flatten) v→Reads w [.sl a] [v]:=fun l v h1 h2 h3=>by
     refine⟨[.sl l.length l.flatten],?_,RL.cons h3 RL.nil⟩
     rw[FitsA]
     refine⟨_,_,rfl,?_,by rw[FitsA]⟩
     rw[shFits]
     exact⟨l,rfl,h1,h2⟩
    rcases DataW.trod_slice ht hx with⟨rfl,-⟩|⟨ad,len,cap,elems,rest,n,rfl,rfl,hxd,hb,hl,hc,hel,hall,-⟩
    ·refine fin [] _ (Nat.zero_le _) (by simp) ?_
     rw[R]
     exact .inl ⟨rfl,rfl,_,_,rfl⟩
    ·have hroom:len≤reachBytes:=by
      have:=hlight ((elems.length+rest.length)*P.bytesOf e) (by simp[hxd,DataW.weights,ht])
      have h2:(elems.length+rest.length)*1≤(elems.length+rest.length)*P.bytesOf e:=Nat.mul_le_mul_left _ hbytes
      omega
     have hel':∀ i,i<len→∀ y,elems[i]?=some y→Light P e y.1:=fun i hi y hy k hk=>by
      refine hlight k ?_
      simp only[hxd,DataW.weights,ht]
      refine List.mem_cons_of_mem _ (List.mem_append_left _ (weights_mem_all (j:=i) (d:=y.1) ?_ k hk))
      rw[List.getElem?_map,hy]
      rfl
     have hele:∀ i,i<len→∃ cs,w.cells? base (ad.add (i*a.length)) a.length=some cs∧Reads w a cs:=fun i hi=>by
      obtain⟨y,hy⟩:∃ y,elems[i]?=some y:=⟨_,List.getElem?_eq_getElem (by omega)⟩
      have h1:=(hall i hi).trans hy
      rw[← hlen.1]at h1
      obtain⟨cs,h2,h3⟩:=Option.bind_eq_some_iff.1 h1
      exact⟨cs,h2,flat_reads m e a ha n cs _ h3 (hel' i hi y hy)⟩
     obtain⟨l,xs,h1,h2,h3,h4,h5⟩:=elems_reads hlen.2 len hele
     refine fin l _ (by omega) h2 ?_
     rw[R]
     rcases Nat.eq_zero_or_pos len with rfl|hpos
     ·left
      have hl0:=List.eq_nil_of_length_eq_zero h1
      subst hl0
      exact⟨rfl,rfl,_,_,rfl⟩
     ·right
      have h0:=h5 0 (Nat.mul_pos hpos hlen.2)
      have hx0:∃ y,xs[0]?=some y:=⟨_,List.getElem?_eq_getElem (by rw[h4];exact Nat.mul_pos hpos hlen.2)⟩
      obtain⟨y0,hx0⟩:=hx0
      rw[hx0]at h0
      have had:(ad.add (0/a.length*a.length)).add (0 % a.length)=ad:=by simp[Addr.add]
      rw[had]at h0
      have hsp:ad.spot=none:=by
       unfold World.cell? at h0
       split at h0
       ·split at h0
        ·cases h0
        ·rename_i hs
         simpa using hs
       ·cases h0
      obtain⟨g,off,sp⟩:=ad
      simp only at hsp
      subst hsp
      refine⟨g,off,cap,xs,by rw[h1],by omega,World.block_lt_of_cell? w ⟨g,off,none⟩ h0,fun h=>h,h3,fun i x hi=>?_⟩
      have hil:i<len*a.length:=by
       rw[← h4]
       exact(List.getElem?_eq_some_iff.1 hi).1
      rw[← hi,← h5 i hil]
      congr 1
      have:=Nat.div_add_mod i a.length
      rw[Nat.mul_comm]at this
      unfold Addr.add
      split<;>split<;>simp_all<;>omega
   ·cases h
  ·rename_i fs ht
   obtain⟨ks',hk,h⟩:=Option.bind_eq_some_iff.1 h
   split at h
   ·rename_i hlen
    obtain rfl:=Option.some.inj h
    obtain⟨xs,n,-,hxd,hcl,hxl,hf⟩:=DataW.trod_struct ht hx
    have:=fields_reads (P:=P) (cs:=cs) (n:=n) (fun t ks hks cs x hx hy=>flat_reads m t ks hks n cs x hx hy) fs.toList 0 ks' hk (fun f hfm=>by
     obtain⟨i,hi⟩:=List.mem_iff_getElem?.1 hfm
     have hi':fs[i]?=some f:=by simpa using hi
     have hlt:=(Array.getElem?_eq_some_iff.1 hi').1
     obtain⟨y,hy⟩:∃ y,xs[i]?=some y:=⟨_,List.getElem?_eq_getElem (by omega)⟩
     refine⟨y,(hf i f hi').trans hy,fun k hk=>hlight k ?_⟩
     simp only[hxd,DataW.weights,ht]
     refine DataW.weights_mem_each (j:=i) (t:=f.type) (d:=y.1) ?_ ?_ k hk
     ·rw[List.getElem?_map,hi]
      rfl
     ·rw[List.getElem?_map,hy]
      rfl) (by omega)
    simpa using this
   ·cases h
  ·rename_i k e ht
   obtain⟨a,ha,h⟩:=Option.bind_eq_some_iff.1 h
   split at h
   ·rename_i hlen
    obtain rfl:=Option.some.inj h
    obtain⟨xs,n,-,hxd,hcl,hxl,hf⟩:=DataW.trod_array ht hx
    have:=rep_reads (a:=a) (cs:=cs) k 0 (fun i hi=>by
     obtain⟨y,hy⟩:∃ y,xs[i]?=some y:=⟨_,List.getElem?_eq_getElem (by omega)⟩
     have h1:=(hf i hi).trans hy
     have:=flat_reads m e a ha n _ _ h1 (fun k hk=>hlight k (by
      simp only[hxd,DataW.weights,ht]
      refine weights_mem_all (j:=i) (d:=y.1) ?_ k hk
      rw[List.getElem?_map,hy]
      rfl))
     rwa [hlen.1,Nat.zero_add]) (by omega)
    simpa using this
   ·cases h
  ·cases h
end
end Go.Proofs.YtpdphobnchajbaaGreatDoor
namespace Go.Proofs.YtpdphobnchajbaaGreatDoor
open Go Go.RowKit Go.Proofs.YtpdphobnchajbaaGreatDoor.Ev
open Go.ChangeShapes Go.WideShapes Go.ChangeAt
def untrodA(F:DataW Unit→Option (List Value))(c:Nat):List (DataW Unit)→Option (List Value)
 |[]=>some []
 |d::ds=>match F d,untrodA F c ds with
  |some a,some r=>if a.length=c then some (a++r)else none
  |_,_=>none
def untrodF(P:Program)(F:TypeId→DataW Unit→Option (List Value)):List Field→List (DataW Unit)→Nat→Option (List Value)
 |[],[],_=>some []
 |f::fs,d::ds,off=>match F f.type d,untrodF P F fs ds (off+P.cellsOf f.type)with
  |some a,some r=>if a.length=P.cellsOf f.type∧f.offset=off then some (a++r)else none
  |_,_=>none
 |_,_,_=>none
def untrod(P:Program):Nat→TypeId→DataW Unit→Option (List Value)
 |0,_,_=>none
 |n+1,t,d=>match P.underlying t with
  |some .bool=>match d with
   |.lit (.bool b)=>some [.bool b]
   |_=>none
  |some (.int k)=>match d with
   |.lit (.int k' z)=>if k=k' then some [.int k z]else none
   |_=>none
  |some .string=>match d with
   |.lit (.string s)=>some [.string ⟨s.toArray⟩]
   |_=>none
  |some (.array _ e)=>match d with
   |.agg ps=>(untrodA (untrod P n e) (P.cellsOf e) ps).bind fun vs=>if vs.length=P.cellsOf t then some vs else none
   |_=>none
  |some (.struct fs)=>match d with
   |.agg ps=>(untrodF P (untrod P n) fs.toList ps 0).bind fun vs=>if vs.length=P.cellsOf t then some vs else none
   |_=>none
  |_=>none
theorem untrodA_ok{F:DataW Unit→Option (List Value)}{c:Nat}{cs:List Value}:∀(ps:List (DataW Unit)) (off:Nat) (vs:List Value),untrodA F c ps=some vs→(∀ i d,ps[i]?=some d→∀ a,F d=some a→(cs.drop (off+i*c)).take c=a)→cs.length=off+vs.length→cs.drop off=vs
 |[],off,vs,h,_,hl=>by
  simp only[untrodA,Option.some.injEq]at h
  subst h
  exact List.drop_eq_nil_of_le (by simp at hl;omega)
 |d::ds,off,vs,h,hx,hl=>by
  simp only[untrodA]at h
  split at h
  ·rename_i a r ha hr
   split at h
   ·rename_i hac
    obtain rfl:=Option.some.inj h
    have h1:=hx 0 d rfl a ha
    simp only[Nat.zero_mul,Nat.add_zero]at h1
    have h2:=untrodA_ok ds (off+c) r hr (fun i d' hd' a' ha'=>by
     have:=hx (i+1) d' (by simpa using hd') a' ha'
     rwa [show off+(i+1)*c=off+c+i*c by rw[Nat.add_mul];omega]at this) (by rw[hl];simp;omega)
    have e:cs.drop off=(cs.drop off).take c++cs.drop (off+c):=by rw[← List.drop_drop,List.take_append_drop]
    rw[e,h1,h2]
   ·cases h
  ·cases h
theorem untrodF_ok{P:Program}{F:TypeId→DataW Unit→Option (List Value)}{cs:List Value}:∀(fs:List Field) (ps:List (DataW Unit)) (off:Nat) (vs:List Value),untrodF P F fs ps off=some vs→(∀(i:Nat) (f:Field) d,fs[i]?=some f→ps[i]?=some d→∀ a,F f.type d=some a→(cs.drop f.offset).take (P.cellsOf f.type)=a)→cs.length=off+vs.length→cs.drop off=vs
 |[],[],off,vs,h,_,hl=>by
  simp only[untrodF,Option.some.injEq]at h
  subst h
  exact List.drop_eq_nil_of_le (by simp at hl;omega)
 |f::fs,d::ds,off,vs,h,hx,hl=>by
  simp only[untrodF]at h
  split at h
  ·rename_i a r ha hr
   split at h
   ·rename_i hac
    obtain rfl:=Option.some.inj h
    have h1:=hx 0 f d rfl rfl a ha
    have h2:=untrodF_ok fs ds (off+P.cellsOf f.type) r hr (fun i f' d' hf' hd' a' ha'=>hx (i+1) f' d' (by simpa using hf') (by simpa using hd') a' ha') (by rw[hl];simp;omega)
    have e:cs.drop off=(cs.drop off).take (P.cellsOf f.type)++cs.drop (off+P.cellsOf f.type):=by rw[← List.drop_drop,List.take_append_drop]
    rw[e,← hac.2,h1,hac.2,h2]
   ·cases h
  ·cases h
 |[],_::_,_,_,h,_,_=>by simp[untrodF]at h
 |_::_,[],_,_,h,_,_=>by simp[untrodF]at h
section
variable{P:Program}{w:World}{base:Nat}{spare:Nat→Bool}{held:Bool}
theorem untrod_ok:∀(m:Nat) (t:TypeId) (d:DataW Unit) (vs:List Value),untrod P m t d=some vs→∀(fuel:Nat) (cs:List Value) (p:List MemPlace),DataW.trod (fun _=>()) P w base spare held fuel t cs=some (d,p)→cs=vs
 |0,_,_,_,h,_,_,_,_=>by simp[untrod]at h
 |m+1,t,d,vs,h,fuel,cs,p,hx=>by
  unfold untrod at h
  split at h
  ·rename_i ht
   obtain⟨b,rfl,hd⟩:=DataW.trod_bool ht hx
   simp only[Prod.mk.injEq]at hd
   rw[hd.1]at h
   exact Option.some.inj h
  ·rename_i k ht
   obtain⟨y,rfl,hd,hw⟩:=DataW.trod_int ht hx
   simp only[Prod.mk.injEq]at hd
   rw[hd.1]at h
   simpa using h
  ·rename_i ht
   obtain⟨s,rfl,hd,hs⟩:=DataW.trod_string ht hx
   simp only[Prod.mk.injEq]at hd
   rw[hd.1]at h
   have:=Option.some.inj h
   rw[← this]
  ·rename_i k e ht
   obtain⟨xs,n,-,hxd,hcl,hxl,hf⟩:=DataW.trod_array ht hx
   simp only[Prod.mk.injEq]at hxd
   rw[hxd.1]at h
   obtain⟨vs',hk,h⟩:=Option.bind_eq_some_iff.1 h
   split at h
   ·rename_i hlen
    obtain rfl:=Option.some.inj h
    have:=untrodA_ok (cs:=cs) (xs.map (·.1)) 0 vs' hk (fun i d' hd' a ha=>by
     rw[List.getElem?_map]at hd'
     obtain⟨y,hy,rfl⟩:=Option.map_eq_some_iff.1 hd'
     have hi:i<k:=by
      rw[← hxl]
      exact(List.getElem?_eq_some_iff.1 hy).1
     have h1:=(hf i hi).trans hy
     rw[Nat.zero_add]
     exact untrod_ok m e y.1 a ha n _ y.2 h1) (by omega)
    simpa using this
   ·cases h
  ·rename_i fs ht
   obtain⟨xs,n,-,hxd,hcl,hxl,hf⟩:=DataW.trod_struct ht hx
   simp only[Prod.mk.injEq]at hxd
   rw[hxd.1]at h
   obtain⟨vs',hk,h⟩:=Option.bind_eq_some_iff.1 h
   split at h
   ·rename_i hlen
    obtain rfl:=Option.some.inj h
    have:=untrodF_ok (P:=P) (cs:=cs) fs.toList (xs.map (·.1)) 0 vs' hk (fun i f d' hf' hd' a ha=>by
     rw[List.getElem?_map]at hd'
     obtain⟨y,hy,rfl⟩:=Option.map_eq_some_iff.1 hd'
     have h1:=(hf i f (by simpa using hf')).trans hy
     exact untrod_ok m f.type y.1 a ha n _ y.2 h1) (by omega)
    simpa using this
   ·cases h
  ·cases h
end
theorem laidVars_mem{P:Program}{w:World}:∀{l:List (String×DataW Unit)} {ps:List MemPlace},DataW.LaidVars P w l ps→∀{n:String} {d:DataW Unit},(n,d)∈l→∃ g t cs fuel p,P.globalNamed n=some g∧(P.globals[g]?).map (·.type)=some t∧w.var? P n=some cs∧DataW.trod (fun _=>()) P w 0 (fun _=>true) false fuel t cs.toList=some (d,p)
 |[],_,_,_,_,hm=>by cases hm
 |x::l,ps,h,n,d,hm=>by
  obtain⟨n0,d0⟩:=x
  obtain⟨g,t,cs,fuel,p,q,h1,h2,h3,h4,h5,-⟩:=h
  rcases List.mem_cons.1 hm with he|hm'
  ·simp only[Prod.mk.injEq]at he
   obtain⟨rfl,rfl⟩:=he
   exact⟨g,t,cs,fuel,p,h1,h2,h3,h4⟩
  ·exact laidVars_mem h5 hm'
def glIn(P:Program)(laid:List (String×DataW Unit))(x:Nat×List Value):Bool :=
 !x.2.isEmpty&&laid.any fun y=>(match P.globalNamed y.1 with
  |some g=>Nat.beq g x.1
  |none=>false)&&(match(P.globals[x.1]?).map (·.type)with
   |some t=>match untrod P 8 t y.2 with
    |some vs=>eqL (vs.map .v) (x.2.map .v)
    |none=>false
   |none=>false)
theorem map_v_inj:∀{a b:List Value},a.map A.v=b.map A.v→a=b
 |[],[],_=>rfl
 |x::a,y::b,h=>by
  simp only[List.map_cons,List.cons.injEq,A.v.injEq]at h
  rw[h.1,map_v_inj h.2]
 |[],_::_,h=>by simp at h
 |_::_,[],h=>by simp at h
theorem trod_ifaceL{P:Program}{w:World}{spare:Nat→Bool}{held:Bool}{fuel t:Nat}{cs:List Value}{p:List MemPlace}{n:String}{d:DataW Unit}(ht:∃ ms,P.underlying t=some (.interface ms))(h:DataW.trod (fun _=>()) P w 0 spare held fuel t cs=some (.iface n d,p)):∃ u v,cs=[.iface u v]:=by
 obtain⟨ms,ht⟩:=ht
 cases fuel with
 |zero=>simp[DataW.trod]at h
 |succ m =>
  unfold DataW.trod at h
  rw[ht]at h
  split at h<;>simp_all
def isIface:DataW Unit→Bool
 |.iface _ _=>true
 |_=>false
def ifIn(P:Program)(laid:List (String×DataW Unit))(g0:Nat):Bool :=
 laid.any fun y=>(match P.globalNamed y.1 with
  |some g=>Nat.beq g g0
  |none=>false)&&isIface y.2&&(match(P.globals[g0]?).map (·.type)with
   |some t=>match P.underlying t with
    |some (.interface _)=>true
    |_=>false
   |none=>false)
theorem var_cells{P:Program}{w:World}{n:String}{g:Nat}{cs:Array Value}(hg:P.globalNamed n=some g)(h:w.var? P n=some cs):∃ e fz,w.heap[g]?=some (.cells cs e fz):=by
 simp only[World.var?,hg,Option.bind_some]at h
 split at h
 ·rename_i cs' e fz hc
  simp only[Option.some.injEq]at h
  subst h
  exact⟨_,_,hc⟩
 ·cases h
theorem gl_of_laid{P:Program}{laid:List (String×DataW Unit)}{W:World}{gl:List (Nat×List Value)}{lk:Nat→List Nat→List Nat→M→M→Loop→Prop}{ifs:Nat→Bool}(hp:(laid.filter fun x=>x.2.handleName?.isSome)=[])(h:laidMetH P laid W)(hg:gl.all (glIn P laid)=true)(hi:∀ g,ifs g=true→ifIn P laid g=true):Ev.Gl ⟨lookL gl,lk,ifs⟩ (fun _=>False) W:=by
 have h':laidMet P laid W:=by
  unfold laidMetH at h
  rw[hp]at h
  exact h
 obtain⟨ps,hv,-⟩:=h'
 refine⟨fun g xs hx=>?_,fun g hx=>?_⟩
 ·have hm:=lookL_mem hx
  have hb:=List.all_eq_true.1 hg _ hm
  unfold glIn at hb
  simp only[Bool.and_eq_true,Bool.not_eq_true']at hb
  obtain⟨hne,hb⟩:=hb
  obtain⟨⟨n,d⟩,hy,hb⟩:=List.any_eq_true.1 hb
  simp only[Bool.and_eq_true]at hb
  obtain⟨hb1,hb2⟩:=hb
  obtain⟨g',t,cs,fuel,p,h1,h2,h3,h4⟩:=laidVars_mem hv hy
  rw[h1]at hb1
  obtain rfl:=Nat.eq_of_beq_eq_true hb1
  rw[h2]at hb2
  simp only at hb2
  split at hb2
  ·rename_i vs hu
   have h5:=map_v_inj (eqL_eq _ _ hb2)
   have h6:=untrod_ok 8 t d vs hu fuel _ _ h4
   have hlie:Lies W g' 0 xs:=fun i x hi=>by
    have h7:=World.var?_cell h1 h3 i
    have e:cs[i]?=some x:=by
     rw[← h5,← h6]at hi
     simpa using hi
    rw[Nat.zero_add]
    rw[h7,e]
   refine⟨fun h=>h,?_,hlie,?_⟩
   ·cases xs with
    |nil=>simp at hne
    |cons x xs=>exact World.block_lt_of_cell? W ⟨g',0,none⟩ (hlie 0 x rfl)
   ·obtain⟨e,fz,hc⟩:=var_cells h1 h3
    refine⟨e,fz,?_⟩
    rw[hc,← h5,← h6]
  ·cases hb2
 ·obtain⟨⟨n,d⟩,hy,hb⟩:=List.any_eq_true.1 (hi g hx)
  simp only[Bool.and_eq_true]at hb
  obtain⟨⟨hb1,hb3⟩,hb2⟩:=hb
  obtain⟨g',t,cs,fuel,p,h1,h2,h3,h4⟩:=laidVars_mem hv hy
  rw[h1]at hb1
  obtain rfl:=Nat.eq_of_beq_eq_true hb1
  rw[h2]at hb2
  simp only at hb2
  cases d with
  |iface n' d' =>
   split at hb2
   ·rename_i ms ht
    obtain⟨u,v,hcs⟩:=trod_ifaceL ⟨ms,ht⟩ h4
    have h7:=World.var?_cell h1 h3 0
    have e:cs[0]?=some (.iface u v):=by
     rw[← Array.getElem?_toList,hcs]
     rfl
    rw[e]at h7
    exact⟨fun h=>h,World.block_lt_of_cell? W ⟨g',0,none⟩ h7,u,v,h7⟩
   ·cases hb2
  |_=>cases hb3
end Go.Proofs.YtpdphobnchajbaaGreatDoor
namespace Go.Proofs.YtpdphobnchajbaaGreatDoor.Ev
open Go Go.RowKit
def idxB(c:Nat):List UInt8→Int→Int
 |[],_=>-1
 |b::l,i=>bif Nat.beq b.toNat c then i else idxB c l (i+1)
theorem indexByte_ge(c:UInt8):∀ l:List UInt8,-1≤Lib.indexByte l c
 |[]=>by simp[Lib.indexByte]
 |b::l=>by
  have:=indexByte_ge c l
  unfold Lib.indexByte
  split
  ·omega
  ·split<;>omega
theorem idxB_eq(c:UInt8):∀(l:List UInt8) (i:Int),idxB c.toNat l i=if Lib.indexByte l c=-1 then -1 else Lib.indexByte l c+i
 |[],i=>by simp[idxB,Lib.indexByte]
 |b::l,i=>by
  have h0:=indexByte_ge c l
  unfold idxB Lib.indexByte
  rw[idxB_eq c l (i+1)]
  by_cases hb:b=c
  ·subst hb
   simp
  ·have h1:Nat.beq b.toNat c.toNat=false:=by
    cases hh:Nat.beq b.toNat c.toNat with
    |false=>rfl
    |true=>exact absurd (UInt8.toNat_inj.1 (Nat.eq_of_beq_eq_true hh)) hb
   have h2:(b==c)=false:=by simpa using hb
   simp only[h1,h2,cond_false,Bool.false_eq_true,if_false]
   by_cases h3:Lib.indexByte l c=-1
   ·simp[h3]
   ·have h4:(Lib.indexByte l c==-1)=false:=by simpa using h3
    simp only[h4,h3,Bool.false_eq_true,if_false]
    have h5:¬ Lib.indexByte l c+1=-1:=by omega
    rw[if_neg h5]
    omega
def xLib(f:FuncId)(zs:List A):Option A :=
 bif Nat.beq f 323 then match zs with
  |[.v (.string s),.v (.int .u8 c)]=>if 0≤c∧c≤255 then some (.v (.int .i64 (idxB c.toNat s.data.toList 0)))else none
  |_=>none
 else none
theorem xLib_ok{T:Tb}:QOk T Tryz.prog xLib:=by
 intro f zs r h
 unfold xLib at h
 cases hb:Nat.beq f 323 with
 |false=>simp[hb]at h
 |true =>
  obtain rfl:=Nat.eq_of_beq_eq_true hb
  simp only[hb,cond_true]at h
  split at h
  ·rename_i s c
   split at h
   ·rename_i hc
    obtain rfl:=Option.some.inj h
    left
    intro ρ own w ys hr
    rw[RL]at hr
    obtain⟨y1,ys1,rfl,h1,h2⟩:=hr
    obtain⟨y2,rfl,h3⟩:=h2.single
    rw[R]at h1 h3
    subst h1
    subst h3
    refine⟨.int .i64 (idxB c.toNat s.data.toList 0),?_,by rw[R]⟩
    have hcc:c.toNat.toUInt8.toNat=c.toNat:=by
     have:c.toNat<256:=by omega
     simp[Nat.toUInt8,Nat.mod_eq_of_lt this]
    rw[run_callFunc_indexByte Tryz.func323 (by kernel_rfl) (by kernel_rfl) (by kernel_rfl) (by rfl),Lib.run_indexByteString]
    rw[← hcc,idxB_eq]
    have hge:=indexByte_ge c.toNat.toUInt8 s.data.toList
    simp only[Result.andThen_ok,Int.add_zero,hcc]
    congr 3
    split
    ·rename_i h5
     exact h5
    ·rfl
   ·cases h
  ·cases h
section
variable{P:Program}{C:Ctx}
theorem leaves_wrap{T:Tb}(hT:TOk P T){c0:Cfg}{st:St}{a:Act}{fn:Func}{x:A}{fc:FuncId}{cap args:Array Value}
  (hinv:∀ w,(invoke (.fn (.func fc) cap) args).run P w=.ok (.enter fc (args++cap)) w)
  (idle:∀ w,CallsDIn (Wd none) 0 P fc (args++cap) .returning w fun e u' w'=>e=.returned (.tuple #[])∧u'=.returning∧w'=w) {ds':List Deferred}:∀{ds:List Deferred} {c:Cfg},To c0 c→result T st fn.results.toList=some x→MarksOk c0 c (ds++ds')→Ok T.gl c→c.H=st.H→EnvR c st.env a →
  LeavesInM (Wd none) 0 P fn a.tmps (Back T c0 x st.H) (ds++{ target:=.fn (.func fc) cap,args:=args }::ds') .returning c.w:=by
 intro ds
 induction ds with
 |nil =>
  intro c ht hres hmk ok hH he
  refine⟨by simp,.inr ⟨by simp[Wd.depth],.func fc,cap,fc,args++cap,rfl,hinv _,fun g hg=>Wd.fn _ g,?_⟩⟩
  refine(idle c.w).mono ?_
  rintro e u' w' ⟨rfl,rfl,rfl⟩
  exact leaves_ok hT ht hres hmk ok hH he
 |cons d ds ih =>
  intro c ht hres hmk ok hH he
  obtain⟨Ds,hnd,hDs,hD⟩:=hmk
  cases Ds with
  |nil=>simp at hDs
  |cons D Ds =>
   simp only[List.cons_append,List.map_cons,List.cons.injEq]at hDs
   obtain⟨rfl,hDs⟩:=hDs
   obtain⟨hn1,hn2⟩:=List.nodup_cons.1 hnd
   have hm:=hD D (.head _)
   obtain⟨k1,k2,k3,k4⟩:=shutMark ok ht hm
   refine⟨by simp,.inl ⟨D,c.w.putObj D (.deferred none),rfl,run_takeDeferred hm.lies,?_⟩⟩
   exact ih (c:=⟨c.ρ,c.own,c.H,c.w.putObj D (.deferred none)⟩) k3 hres ⟨Ds,hn2,hDs,fun D' hD'=>k4 D' (by rintro rfl;exact hn1 hD') (hD D' (.tail _ hD'))⟩ k2 hH (fun t z hz=>R.keep k1 _ _ (he t z hz))
end
theorem idleA(p:Addr)(w:World):CallsDIn (Wd none) 0 Tryz.prog 286 #[.pointer (some p)] .returning w fun e u' w'=>e=.returned (.tuple #[])∧u'=.returning∧w'=w:=by
 refine callsDIn_of_wpSIn Tryz.func286 rfl (Wd.fn _ _) fun c₀ cs hu=>?_
 apply wpSIn_seq
 apply wpSIn_region
 have hnil:∀ w:World,(binOp BinOp.neq 20 .nilIface .nilIface).run Tryz.prog w=.ok (.bool false) w:=fun _=>by kernel_rfl
 simp[wpOpsSIn,go_sem,recoverD,hu,Tryz.ntmps286,Exit.thenS,hnil]
 refine wpSIn_cond (t:=false) (by simp[Act.eval,Array.replicate]) ?_
 simp only[Bool.false_eq_true,if_false]
 refine wpSIn_of_wpIn rfl (wpIn_skip ?_)
 cases c₀
 simp_all [bodyPostS,results,Tryz.results286]
def allA:List Nat:=[0,1,2,3,4,5,6,7,8]
def mAga:M:=.reg allA [⟨some 3,.box 114 (.tmp 1),none⟩,⟨some 4,.alloc 4,none⟩] 0
def mAgb:M:=.reg allA [⟨some 6,.move (.tmp 0),none⟩,⟨some 7,.load 114 (.tmp 3),none⟩,⟨some 8,.call ⟨.value (.tmp 6),#[.tmp 7],#[114]⟩,none⟩,⟨none,.store 4 (.tmp 4) (.tmp 8),none⟩] 0
def seqLA:Code→Code
 |.seq a _=>a
 |c=>c
def seqRA:Code→Code
 |.seq _ b=>b
 |c=>c
noncomputable def cAg:Code:=Tryz.f225.body.getD .skip
noncomputable def oAg:Array Oper:=match seqLA (seqRA cAg)with
 |.region _ ops _=>ops
 |_=>#[]
theorem bodyAg:Tryz.f225.body=some cAg:=rfl
theorem entersAg:Enters Tryz.prog 225:=by
 intro args w
 have h5:¬ Tryz.f225.name= "runtime.NumGoroutine":=by decide
 simp[callFunc,Tryz.func225,h5,bodyAg]
theorem cAg_eq:cAg=.seq (seqLA cAg) (.seq (.region 1 oAg false) (.seq (seqLA (seqRA (seqRA cAg))) .ret)):=by kernel_rfl
theorem cAg_a:cmp 9 (fun _=>allA) (seqLA cAg)=mAga:=by kernel_rfl
theorem cAg_b:cmp 9 (fun _=>allA) (seqLA (seqRA (seqRA cAg)))=mAgb:=by kernel_rfl
def agreesO(C:Ctx)(N:Nat)(zs:List A)(H:Heap):Option (A×Heap) :=
 match runM C.T (callQ C N) (callQ.callO C N) N mAga ⟨argE 0 zs,H⟩with
 |some (.go,s1)=>match look s1.env 4,look s1.env 5 with
  |some (.ptr _ 0),none=>match runM C.T (callQ C N) (callQ.callO C N) N mAgb s1 with
   |some (.go,s2)=>match result C.T s2 [.cell 4 4]with
    |some x=>bif Nat.ble zs.length 9 then some (x,s2.H)else none
    |none=>none
   |_=>none
  |_,_=>none
 |_=>none
theorem agreesO_ok{C:Ctx}(hC:CtxOk Tryz.prog C){N:Nat}{zs:List A}{H H':Heap}{x:A}(h:agreesO C N zs H=some (x,H')):FnOut C.T Tryz.prog 225 zs H x H':=by
 obtain⟨hQ,hO⟩:=call_sound hC N
 refine .inr ⟨entersAg,fun c ys hH ok hr=>?_⟩
 unfold agreesO at h
 split at h
 ·rename_i s1 h0
  split at h
  ·rename_i b hp hn
   split at h
   ·rename_i s2 h2
    split at h
    ·rename_i x' hres
     cases hlen:Nat.ble zs.length 9 with
     |false=>simp[hlen]at h
     |true =>
      simp only[hlen,cond_true,Option.some.injEq,Prod.mk.injEq]at h
      obtain⟨rfl,rfl⟩:=h
      have hlen:=Nat.le_of_ble_eq_true hlen
      have hl:=hr.length
      have henv:EnvR c (argE 0 zs) { tmps:=ys.toArray++Array.replicate (Tryz.f225.ntmps-ys.toArray.size) undef,defers:=[] }:=by
       intro t z hz
       obtain⟨-,hz'⟩:=look_argE zs 0 t z hz
       obtain⟨y,hy,hzr⟩:=hr.get (t-0) z hz'
       have hy':(ys.toArray++Array.replicate (Tryz.f225.ntmps-ys.toArray.size) undef)[t]?=some y:=by
        rw[Array.getElem?_append_left (by simpa using (List.getElem?_eq_some_iff.1 hy).1)]
        simpa using hy
       simp only[Array.getD_eq_getD_getElem?,hy',Option.getD_some]
       exact hzr
      have hsz:(ys.toArray++Array.replicate (Tryz.f225.ntmps-ys.toArray.size) undef).size=9:=by
       rw[Tryz.ntmps225]
       simp
       omega
      refine(callsIn_wide (n:=0)).1 (callsIn_of_wp_marks (fn:=Tryz.f225) (c:=cAg) Tryz.func225 bodyAg trivial ?_)
      have hwd:Fence.wide=Wd none:=rfl
      rw[hwd,cAg_eq]
      refine wpIn_seq (code_ok hC.mixed hC.types hC.loops hQ hO N _ _ _ _ (by rw[cAg_a];exact h0) c _ _ hH ok henv hsz (fun l hl=>by cases hl) ?_)
      intro a1 c1 ds1 k1 k2 k3 k4 k5 k6 k7
      refine wpIn_seq ?_
      obtain⟨q1,q2,ho,e1,e2,e3,e4,e5,e6⟩:∃ q1 q2:Oper,oAg=#[q1,q2]∧q1.op=.makeFunc (.func 286) #[] #[.tmp 4]∧q1.dst=some 5∧q1.guard=none∧q2.op=.defer { callee:=.value (.tmp 5),args:=#[],argTypes:=#[] }∧q2.dst=none∧q2.guard=none:=⟨_,_,rfl,rfl,rfl,rfl,rfl,rfl,rfl⟩
      rw[ho]
      refine wpIn_region_list ?_
      have hp4:=k4 4 _ hp
      rw[R]at hp4
      obtain⟨g,hg,hpv,-⟩:=hp4
      refine wpListIn_plain e3 fun K hK=>?_
      have hr1:(execOp a1.eval q1).run Tryz.prog c1.w=.ok (.value (.func (.func 286) #[] #[.pointer (some ⟨g,0,none⟩)])) c1.w:=by
       simp only[execOp,e1]
       simp[Instr.makeFunc,Act.eval,hpv]
      have hs1:q1.semAt (Wd none).round a1.eval=execOp a1.eval q1:=by
       unfold Oper.semAt
       rw[e1]
       rfl
      refine⟨fun f _=>Wd.fn _ f,?_⟩
      rw[hs1,hr1]
      show K (a1.put q1.dst _) c1.w
      refine hK _ _ ?_
      refine wpListIn_plain e6 fun K2 hK2=>?_
      rw[e2]
      have ha5:(a1.put (some 5) (.func (.func 286) #[] #[.pointer (some ⟨g,0,none⟩)])).eval (.tmp 5)=.func (.func 286) #[] #[.pointer (some ⟨g,0,none⟩)]:=by
       simp[Act.put,Act.eval,k5]
      have hr2:(execOp (a1.put (some 5) (.func (.func 286) #[] #[.pointer (some ⟨g,0,none⟩)])).eval q2).run Tryz.prog c1.w=.ok (.defer { target:=.fn (.func 286) #[.pointer (some ⟨g,0,none⟩)],args:=#[] }) c1.w:=by
       simp only[execOp,e4,resolve,ha5]
       simp[Deferred.ofValue]
      have hs2:q2.semAt (Wd none).round (a1.put (some 5) (.func (.func 286) #[] #[.pointer (some ⟨g,0,none⟩)])).eval=execOp (a1.put (some 5) (.func (.func 286) #[] #[.pointer (some ⟨g,0,none⟩)])).eval q2:=by
       unfold Oper.semAt
       rw[e4]
       rfl
      refine⟨fun f _=>Wd.fn _ f,?_⟩
      rw[hs2,hr2]
      refine hK2 _ _ (wpListIn_nil ?_)
      have k4':EnvR c1 s1.env (({ a1.put (some 5) (.func (.func 286) #[] #[.pointer (some ⟨g,0,none⟩)])with defers:={ target:=.fn (.func 286) #[.pointer (some ⟨g,0,none⟩)],args:=#[] }::a1.defers }:Act).put q2.dst undef):=by
       intro t z hz
       have hne:t≠5:=by
        rintro rfl
        rw[hn]at hz
        cases hz
       have:=k4 t z hz
       rw[e5]
       simpa[Act.put,Array.getD_eq_getD_getElem?,Array.getElem?_setIfInBounds_ne (Ne.symm hne)]using this
      refine wpIn_seq (code_ok hC.mixed hC.types hC.loops hQ hO N _ _ _ _ (by rw[cAg_b];exact h2) c1 _ _ k1 k3 k4' (by rw[e5];simp[Act.put,k5]) (fun l hl=>by cases hl) ?_)
      intro a2 c2 ds2 j1 j2 j3 j4 j5 j6 j7
      refine wpIn_ret ?_
      show LeavesInM (Wd none) 0 Tryz.prog Tryz.f225 a2.tmps _ a2.defers .returning c2.w
      have hd:(({ a1.put (some 5) (.func (.func 286) #[] #[.pointer (some ⟨g,0,none⟩)])with defers:={ target:=.fn (.func 286) #[.pointer (some ⟨g,0,none⟩)],args:=#[] }::a1.defers }:Act).put q2.dst undef).defers={ target:=.fn (.func 286) #[.pointer (some ⟨g,0,none⟩)],args:=#[] }::ds1:=by
       rw[e5]
       show _::a1.defers=_
       rw[k6]
       simp
      have hm12:MarksOk c c2 (ds2++ds1):=k7.app k2 j2 j7
      have hl:=leaves_wrap (P:=Tryz.prog) (fn:=Tryz.f225) (fc:=286) (cap:=#[.pointer (some ⟨g,0,none⟩)]) (args:=#[]) hC.types (fun w=>by simp[invoke]) (fun w=>by simpa using idleA ⟨g,0,none⟩ w) (k2.trans j2) hres hm12 j3 j1 j4
      have j6':a2.defers=ds2++{ target:=.fn (.func 286) #[.pointer (some ⟨g,0,none⟩)],args:=#[] }::ds1:=by rw[j6];exact congrArg (ds2++·) hd
      rw[j6']
      exact hl
    ·cases h
   ·cases h
  ·cases h
 ·cases h
theorem agreesO_le{C:Ctx}{N N':Nat}(hn:N≤N'){zs:List A}{H:Heap}{r:A×Heap}(h:agreesO C N zs H=some r):agreesO C N' zs H=some r:=by
 unfold agreesO at h
 split at h
 ·rename_i s1 h0
  split at h
  ·rename_i b hp hq
   split at h
   ·rename_i s2 h2
    unfold agreesO
    have h0':=runAt_le C hn (m:=mAga) h0
    have h2':=runAt_le C hn (m:=mAgb) h2
    unfold runAt at h0' h2'
    rw[h0']
    simp only[hp,hq]
    rw[h2']
    exact h
   ·cases h
  ·cases h
 ·cases h
open Classical in
noncomputable def agreesW(C:Ctx)(zs:List A)(H:Heap):Option (A×Heap):=if h:∃ r N,agreesO C N zs H=some r then some (Classical.choose h)else none
theorem agreesW_of{C:Ctx}{N:Nat}{zs:List A}{H:Heap}{r:A×Heap}(h:agreesO C N zs H=some r):agreesW C zs H=some r:=by
 have hx:∃ r N,agreesO C N zs H=some r:=⟨r,N,h⟩
 unfold agreesW
 rw[dif_pos hx]
 obtain⟨N',h'⟩:=Classical.choose_spec hx
 have h1:=agreesO_le (Nat.le_max_left N N') h
 have h2:=agreesO_le (Nat.le_max_right N N') h'
 rw[h1]at h2
 exact h2.symm
theorem agrees_ok{C:Ctx}(hC:CtxOk Tryz.prog C){zs:List A}{H H':Heap}{x:A}(h:agreesW C zs H=some (x,H')):FnOut C.T Tryz.prog 225 zs H x H':=by
 unfold agreesW at h
 split at h
 ·rename_i hx
  obtain⟨N,h'⟩:=Classical.choose_spec hx
  rw[Option.some.inj h]at h'
  exact agreesO_ok hC h'
 ·cases h
end Go.Proofs.YtpdphobnchajbaaGreatDoor.Ev
namespace Go.Proofs.YtpdphobnchajbaaGreatDoor
open Go Go.RowKit Go.Proofs.YtpdphobnchajbaaGreatDoor.Ev
open Go.ChangeShapes Go.WideShapes Go.ChangeAt
section
variable{H:Type}{enc:TypeId×Value→H}{P:Program}{w:World}{base:Nat}{spare:Nat→Bool}{held:Bool}
def ReadsP(w:World)(F:List A→Prop)(cs:List Value):Prop:=∃ l,F l∧RL [] (fun _=>False) w l cs
theorem ReadsP.mono{F G:List A→Prop}{cs:List Value}(h:ReadsP w F cs)(hg:∀ l,F l→G l):ReadsP w G cs:=by
 obtain⟨l,h1,h2⟩:=h
 exact⟨l,hg l h1,h2⟩
theorem Reads.pred{ks:List Sh}{cs:List Value}{F:List A→Prop}(h:Reads w ks cs)(hF:∀ l,FitsA ks l→F l):ReadsP w F cs:=by
 obtain⟨l,h1,h2⟩:=h
 exact⟨l,hF l h1,h2⟩
def catP:List (List A→Prop)→List A→Prop
 |[],l=>l=[]
 |p::ps,l=>∃ a b,l=a++b∧p a∧catP ps b
theorem elems_readsP{F:List A→Prop}{sz:Nat}{ad:Addr}(ha:0<sz):∀(len:Nat),(∀ i,i<len→∃ cs,w.cells? base (ad.add (i*sz)) sz=some cs∧ReadsP w F cs) →
  ∃(l:List (List A)) (xs:List Value),l.length=len∧(∀ c∈l,F c)∧RL [] (fun _=>False) w l.flatten xs∧xs.length=len*sz∧∀ i,i<len*sz→w.cell? ((ad.add (i/sz*sz)).add (i % sz))=xs[i]?
 |0,_=>⟨[],[],rfl,by simp,RL.nil,by simp,by simp⟩
 |len+1,h=>by
  obtain⟨l,xs,h1,h2,h3,h4,h5⟩:=elems_readsP ha len fun i hi=>h i (by omega)
  obtain⟨cs,h6,c,h7,h8⟩:=h len (by omega)
  obtain⟨h9,h10⟩:=cells_get h6
  refine⟨l++[c],xs++cs,by simp[h1],?_,?_,?_,?_⟩
  ·intro d hd
   rcases List.mem_append.1 hd with hd|hd
   ·exact h2 d hd
   ·rw[List.mem_singleton.1 hd];exact h7
  ·rw[List.flatten_append]
   simpa using RL.append h3 h8
  ·simp[h4,h9,Nat.add_mul]
  ·intro i hi
   rcases Nat.lt_or_ge i (len*sz)with hlt|hge
   ·rw[h5 i hlt,List.getElem?_append_left (by omega)]
   ·have e1:i/sz=len:=by
     rw[Nat.add_mul]at hi
     apply Nat.div_eq_of_lt_le
     ·exact hge
     ·rw[Nat.add_mul];omega
    have e2:i % sz=i-len*sz:=by
     have:=Nat.div_add_mod i sz
     rw[e1,Nat.mul_comm]at this
     omega
    rw[e1,e2,h10 _ (by rw[Nat.add_mul]at hi;omega),List.getElem?_append_right (by omega),h4]
theorem slice_readsP{F:List A→Prop}{e t:TypeId}(ht:P.underlying t=some (.slice e))(hsz0:Nat.ble 1 (P.cellsOf e)=true)(hbytes0:Nat.ble 1 (P.bytesOf e)=true){fuel:Nat}{cs:List Value}{x:DataW H×List MemPlace}(hx:DataW.trod enc P w base spare held fuel t cs=some x)(hlight:Light P t x.1)
  (ih:∀ n,n<fuel→∀(cs:List Value) (x:DataW H×List MemPlace),DataW.trod enc P w base spare held n e cs=some x→Light P e x.1→ReadsP w F cs) :
  ReadsP w (fun l=>∃ ls:List (List A),l=[.sl ls.length ls.flatten]∧ls.length≤reachBytes∧∀ c∈ls,F c) cs:=by
 have hsz:0<P.cellsOf e:=Nat.le_of_ble_eq_true hsz0
 have hbytes:0<P.bytesOf e:=Nat.le_of_ble_eq_true hbytes0
 have fin:∀(l:List (List A)) (v:Value),l.length≤reachBytes→(∀ c∈l,F c)→R [] (fun _=>False) w (.sl l.length l.flatten) v→ReadsP w (fun l=>∃ ls:List (List A),l=[.sl ls.length ls.flatten]∧ls.length≤reachBytes∧∀ c∈ls,F c) [v]:=fun l v h1 h2 h3 =>
  ⟨[.sl l.length l.flatten],⟨l,rfl,h1,h2⟩,RL.cons h3 RL.nil⟩
 rcases DataW.trod_slice ht hx with⟨rfl,-⟩|⟨ad,len,cap,elems,rest,n,rfl,rfl,hxd,hb,hl,hc,hel,hall,-⟩
 ·refine fin [] _ (Nat.zero_le _) (by simp) ?_
  rw[R]
  exact .inl ⟨rfl,rfl,_,_,rfl⟩
 ·have hroom:len≤reachBytes:=by
   have:=hlight ((elems.length+rest.length)*P.bytesOf e) (by simp[hxd,DataW.weights,ht])
   have h2:(elems.length+rest.length)*1≤(elems.length+rest.length)*P.bytesOf e:=Nat.mul_le_mul_left _ hbytes
   omega
  have hel':∀ i,i<len→∀ y,elems[i]?=some y→Light P e y.1:=fun i hi y hy k hk=>by
   refine hlight k ?_
   simp only[hxd,DataW.weights,ht]
   refine List.mem_cons_of_mem _ (List.mem_append_left _ (weights_mem_all (j:=i) (d:=y.1) ?_ k hk))
   rw[List.getElem?_map,hy]
   rfl
  have hele:∀ i,i<len→∃ cs,w.cells? base (ad.add (i*P.cellsOf e)) (P.cellsOf e)=some cs∧ReadsP w F cs:=fun i hi=>by
   obtain⟨y,hy⟩:∃ y,elems[i]?=some y:=⟨_,List.getElem?_eq_getElem (by omega)⟩
   have h1:=(hall i hi).trans hy
   obtain⟨cs,h2,h3⟩:=Option.bind_eq_some_iff.1 h1
   exact⟨cs,h2,ih n (by omega) cs _ h3 (hel' i hi y hy)⟩
  obtain⟨l,xs,h1,h2,h3,h4,h5⟩:=elems_readsP hsz len hele
  refine fin l _ (by omega) h2 ?_
  rw[R]
  rcases Nat.eq_zero_or_pos len with rfl|hpos
  ·left
   have hl0:=List.eq_nil_of_length_eq_zero h1
   subst hl0
   exact⟨rfl,rfl,_,_,rfl⟩
  ·right
   have h0:=h5 0 (Nat.mul_pos hpos hsz)
   have hx0:∃ y,xs[0]?=some y:=⟨_,List.getElem?_eq_getElem (by rw[h4];exact Nat.mul_pos hpos hsz)⟩
   obtain⟨y0,hx0⟩:=hx0
   rw[hx0]at h0
   have had:(ad.add (0/P.cellsOf e*P.cellsOf e)).add (0 % P.cellsOf e)=ad:=by simp[Addr.add]
   rw[had]at h0
   have hsp:ad.spot=none:=by
    unfold World.cell? at h0
    split at h0
    ·split at h0
     ·cases h0
     ·rename_i hs
      simpa using hs
    ·cases h0
   obtain⟨g,off,sp⟩:=ad
   simp only at hsp
   subst hsp
   refine⟨g,off,cap,xs,by rw[h1],by omega,World.block_lt_of_cell? w ⟨g,off,none⟩ h0,fun h=>h,h3,fun i x hi=>?_⟩
   have hil:i<len*P.cellsOf e:=by
    rw[← h4]
    exact(List.getElem?_eq_some_iff.1 hi).1
   rw[← hi,← h5 i hil]
   congr 1
   have:=Nat.div_add_mod i (P.cellsOf e)
   rw[Nat.mul_comm]at this
   unfold Addr.add
   split<;>split<;>simp_all<;>omega
def contig(P:Program):List Field→Nat→Nat→Bool
 |[],off,e=>Nat.beq off e
 |f::fs,off,e=>Nat.beq f.offset off&&contig P fs (off+P.cellsOf f.type) e
theorem fields_readsP{cs:List Value}:∀(fs:List Field) (Ps:List (List A→Prop)) (off:Nat),fs.length=Ps.length→contig P fs off cs.length=true →
  (∀(i:Nat) (f:Field) (p:List A→Prop),fs[i]?=some f→Ps[i]?=some p→ReadsP w p ((cs.drop f.offset).take (P.cellsOf f.type)))→ReadsP w (catP Ps) (cs.drop off)
 |[],Ps,off,hl,hc,_=>by
  obtain rfl:=List.eq_nil_of_length_eq_zero (l:=Ps) (by simpa using hl.symm)
  have:=Nat.eq_of_beq_eq_true hc
  rw[List.drop_eq_nil_of_le (by omega)]
  exact⟨[],rfl,RL.nil⟩
 |f::fs,[],off,hl,_,_=>by simp at hl
 |f::fs,p::Ps,off,hl,hc,h=>by
  rw[contig,Bool.and_eq_true]at hc
  have ho:=Nat.eq_of_beq_eq_true hc.1
  obtain⟨a,ha,hra⟩:=h 0 f p rfl rfl
  obtain⟨b,hb,hrb⟩:=fields_readsP fs Ps (off+P.cellsOf f.type) (by simpa using hl) hc.2 fun i g q hg hq=>h (i+1) g q hg hq
  refine⟨a++b,⟨a,b,rfl,ha,hb⟩,?_⟩
  have e:cs.drop off=(cs.drop off).take (P.cellsOf f.type)++cs.drop (off+P.cellsOf f.type):=by
   rw[← List.drop_drop,List.take_append_drop]
  rw[e]
  rw[ho]at hra
  exact RL.append hra hrb
def structOf(P:Program)(t:TypeId):Option (List TypeId) :=
 match P.underlying t with
 |some (.struct fs)=>bif contig P fs.toList 0 (P.cellsOf t)then some (fs.toList.map (·.type))else none
 |_=>none
theorem struct_readsP{t:TypeId}{tys:List TypeId}(ht:structOf P t=some tys){Ps:List (List A→Prop)}(hl:tys.length=Ps.length){fuel:Nat}{cs:List Value}{x:DataW H×List MemPlace}(hx:DataW.trod enc P w base spare held fuel t cs=some x)(hlight:Light P t x.1)
  (ih:∀ n,n<fuel→∀(i:Nat) (ty:TypeId) (p:List A→Prop),tys[i]?=some ty→Ps[i]?=some p→∀(cs:List Value) (x:DataW H×List MemPlace),DataW.trod enc P w base spare held n ty cs=some x→Light P ty x.1→ReadsP w p cs) :
  ReadsP w (catP Ps) cs:=by
 unfold structOf at ht
 split at ht
 ·rename_i fs hu
  cases hcon:contig P fs.toList 0 (P.cellsOf t)with
  |false=>rw[hcon]at ht;cases ht
  |true =>
   rw[hcon,cond_true,Option.some.injEq]at ht
   obtain⟨xs,n,hn,hxd,hcl,hxl,hf⟩:=DataW.trod_struct hu hx
   have:=fields_readsP (w:=w) (P:=P) (cs:=cs) fs.toList Ps 0 (by rw[← hl,← ht,List.length_map]) (by rw[hcl];exact hcon) fun i f p hi hp=>by
    have hi':fs[i]?=some f:=by simpa using hi
    have hlt:=(Array.getElem?_eq_some_iff.1 hi').1
    obtain⟨y,hy⟩:∃ y,xs[i]?=some y:=⟨_,List.getElem?_eq_getElem (by omega)⟩
    refine ih n (by omega) i f.type p (by rw[← ht,List.getElem?_map,hi];rfl) hp _ y ((hf i f hi').trans hy) fun k hk=>hlight k ?_
    simp only[hxd,DataW.weights,hu]
    refine DataW.weights_mem_each (j:=i) (t:=f.type) (d:=y.1) ?_ ?_ k hk
    ·rw[List.getElem?_map,hi]
     rfl
    ·rw[List.getElem?_map,hy]
     rfl
   simpa using this
 ·cases ht
theorem flat_pred{t:TypeId}{ks:List Sh}(m:Nat)(hk:flatS P m t=some ks){F:List A→Prop}(hF:∀ l,FitsA ks l→F l){fuel:Nat}{cs:List Value}{x:DataW H×List MemPlace}(hx:DataW.trod enc P w base spare held fuel t cs=some x)(hlight:Light P t x.1):ReadsP w F cs :=
 (flat_reads m t ks hk fuel cs x hx hlight).pred hF
theorem catP_nil{l:List A}(h:catP [] l):l=[]:=h
theorem catP_cons{p:List A→Prop}{ps:List (List A→Prop)}{l:List A}(h:catP (p::ps) l):∃ a b,l=a++b∧p a∧catP ps b:=h
end
end Go.Proofs.YtpdphobnchajbaaGreatDoor
