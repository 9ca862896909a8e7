/- The evaluator's operations on live blocks are the model's: variables, literal slices, stores, make, append, copy. -/
import Derived.Test.YtpdphobnchajbaaGreatDoorQ01
import Derived.Laws.RangeString
import Derived.RangeFuncNested
import Derived.LoopNIn
set_option linter.unusedSimpArgs false
set_option linter.unusedVariables false
namespace Go.Proofs.YtpdphobnchajbaaGreatDoor.Ev
open Go Go.RowKit
variable{P:Program}{T:Tb}
theorem aV5{ρ:List Nat}{own:Nat→Prop}{w:World}{a:A}{y:Value}(h:R ρ own w a y)(h1:one a=true):y.oneCell'=true:=by
 cases a with
 |v x =>
  simp only[R]at h
  subst h
  cases y<;>first
   |rfl
   |(simp[one]at h1)
 |agg cs=>simp[one]at h1
 |tup cs=>simp[one]at h1
 |ptr b off=>simp only[R]at h;obtain⟨g,-,rfl,-⟩:=h;rfl
 |mp b=>simp only[R]at h;obtain⟨g,-,rfl,-⟩:=h;rfl
 |mf cs =>
  simp only[R]at h
  rcases h with⟨-,rfl⟩|⟨g,es,n,rfl,-⟩<;>rfl
 |ref b off len sz=>simp only[R]at h;obtain⟨g,cap,cur,e,fz,-,rfl,-⟩:=h;rfl
 |sl len cs =>
  simp only[R]at h
  rcases h with⟨-,-,ad,cap,rfl⟩|⟨g,off,cap,xs,rfl,-⟩<;>rfl
 |fp cs=>simp only[R]at h;obtain⟨g,off,xs,rfl,-⟩:=h;rfl
 |clo f fs caps=>simp only[R]at h;obtain⟨xs,ys,rfl,-⟩:=h;rfl
 |yl b=>simp only[R]at h;obtain⟨g,-,rfl,-⟩:=h;rfl
 |lrec nt ps sl a b=>rw[R]at h;exact h.elim
 |it b=>simp only[R]at h;obtain⟨g,-,rfl,-⟩:=h;rfl
 |its s p=>rw[R]at h;exact h.elim
theorem xS{ρ:List Nat}{own:Nat→Prop}{w:World}:∀{cs:List A} {ys:List Value},RL ρ own w cs ys→dE cs=true→∀ v∈ys,v.oneCell'=true
 |[],ys,h,_,v,hv=>by rw[RL]at h;subst h;cases hv
 |c::cs,ys,h,h1,v,hv=>by
  rw[RL]at h
  obtain⟨x,xs,rfl,h2,h3⟩:=h
  simp only[dE,Bool.and_eq_true]at h1
  cases hv with
  |head=>exact aV5 h2 h1.1
  |tail _ hm=>exact xS h3 h1.2 v hm
theorem oU(z:List Value)(h:0<z.length):∀ n:Nat,(madeCells z.toArray (n*z.length)).toList=(List.replicate n z).flatten
 |0=>by simp[madeCells]
 |n+1=>by
  have ih:=oU z h n
  simp only[madeCells,Array.toList_map,Array.toList_range,List.size_toArray]at ih ⊢
  rw[List.replicate_succ,List.flatten_cons,← ih,Nat.add_mul,Nat.one_mul,Nat.add_comm,List.range_add,List.map_append,List.map_map]
  congr 1
  ·apply List.ext_getElem
   ·simp
   ·intro i h1 h2
    simp only[List.length_map,List.length_range]at h1
    simp[Nat.mod_eq_of_lt h1,h1]
  ·apply List.map_congr_left
   intro i _
   simp
theorem sU{ρ:List Nat}{own:Nat→Prop}{w:World}(z:List Value):∀ n:Nat,RL ρ own w (gJ z n) (List.replicate n z).flatten
 |0=>by simp only[gJ,List.replicate_zero,List.flatten_nil];exact RL.nil
 |n+1=>by
  rw[List.replicate_succ,List.flatten_cons]
  exact(RL.exact z).append (sU z n)
theorem sT(place:Nat→Option (Nat×Nat)):∀(ps:List (Nat×A)) (cs r:List A),lJ place cs ps=some r→r.length=cs.length
 |[],cs,r,h=>by simp[lJ]at h;rw[h]
 |(i,x)::ps,cs,r,h=>by
  unfold lJ at h
  cases hp:place i with
  |none=>simp[hp]at h
  |some os =>
   obtain⟨off,size⟩:=os
   simp only[hp]at h
   split at h
   ·rw[sT place ps _ r h]
    simp
    omega
   ·cases h
theorem nZ(z:List Value):∀ n:Nat,(gJ z n).length=n*z.length
 |0=>by simp[gJ]
 |n+1=>by simp[gJ,nZ z n,Nat.add_mul,Nat.add_comm]
section
variable{c:Cfg}{e:Env}{a:Act}{o:Oper}{x:A}{H':aG}
def dV(T:Tb)(P:Program)(c:Cfg)(a:Act)(o:Oper)(x:A)(H':aG):Prop :=
 ∃ r y c',(execOp a.eval o).run P c.w=.ok r c'.w∧(r=.value y∨(r=.skip∧y=undef))∧c'.H=H'∧To c c'∧Ok T.gl c'∧R c'.ρ c'.own c'.w x y
theorem dV.mk{s:Sem Value}{y:Value}{c':Cfg}(hx:execOp a.eval o=(do pure (.value (← s)):Sem Next))(h:s.run P c.w=.ok y c'.w)(hH:c'.H=H')(ht:To c c')(hk:Ok T.gl c')(hr:R c'.ρ c'.own c'.w x y):dV T P c a o x H' :=
 ⟨.value y,y,c',by rw[hx];simp[h],.inl rfl,hH,ht,hk,hr⟩
theorem bV.makes(ok:Ok T.gl c)(h:bV P c a o x):dV T P c a o x c.H:=let ⟨y,h1,h2⟩:=h;⟨.value y,y,c,h1,.inl rfl,rfl,To.refl c,ok,h2⟩
theorem aEp(hT:TOk P T)(ok:Ok T.gl c){t:TypeId}(ho:o.op=.alloc t)(h:aR T e c.H (.alloc t)=some (x,H')):dV T P c a o x H':=by
 simp only[aR]at h
 cases hty:T t with
 |none=>simp[hty]at h
 |some ty =>
  simp only[hty,Option.some.injEq,Prod.mk.injEq]at h
  obtain⟨rfl,rfl⟩:=h
  obtain⟨z,hz,hzc,-⟩:=(hT.facts hty).zero c.w
  have hx:execOp a.eval o=(do pure (.value (← Instr.alloc t true (.tuple #[]))):Sem Next):=by simp only[execOp,ho]
  obtain⟨c',h1,h2,h3,h4,h5,h6⟩:=vQ (w':=c.w.alloc (.cells z.cells t)) (e:=t) (wh:=true) (cs:=ty.zero.map .v) (cur:=z.cells) (xs:=ty.zero) ok (.inl rfl) (RL.exact _) (by rw[hzc];exact List.prefix_rfl) (by intro _;rw[← Array.length_toList,hzc];simp)
  refine dV.mk hx (y:=.pointer (some ⟨c.w.heap.size,0,none⟩)) ?_ h1 h3 h4 (by rw[R];exact⟨_,h5,rfl,_,_,_,h6⟩)
  rw[h2]
  simp[Instr.alloc,hz,newVar,newRow]
theorem a1e(ok:Ok T.gl c)(he:cF c e a){t:TypeId}{p:Operand}(ho:o.op=.box t p)(h:aR T e c.H (.box t p)=some (x,H')):dV T P c a o x H':=by
 simp only[aR]at h
 cases hp:opnd e p with
 |none=>simp[hp]at h
 |some u =>
  simp only[hp]at h
  split at h
  ·simp only[Option.some.injEq,Prod.mk.injEq]at h
   obtain⟨rfl,rfl⟩:=h
   have hx:execOp a.eval o=(do pure (.value (← Instr.box t (a.eval p))):Sem Next):=by simp only[execOp,ho]
   have hu:=vN (he.opnd hp)
   obtain⟨c',h1,h2,h3,h4,h5,h6⟩:=vQ (w':=c.w.alloc (.cells (a.eval p).cells t)) (e:=t) (wh:=true) (cur:=(a.eval p).cells) ok (.inl rfl) hu List.prefix_rfl (by intro _;rw[← hu.length];simp)
   refine dV.mk hx (y:=.pointer (some ⟨c.w.heap.size,0,none⟩)) ?_ h1 h3 h4 (by rw[R];exact⟨_,h5,rfl,_,_,_,h6⟩)
   rw[h2]
   simp[Instr.box,newVar,newRow]
  ·cases h
theorem kZ{t:TypeId}{ty:Ty}(F:iL P t ty)(w:World):∃ z,(zeroValue t).run P w=.ok z w∧z.cells=ty.zero.toArray:=by
 obtain⟨z,h1,h2,-⟩:=F.zero w
 exact⟨z,h1,by rw[← h2]⟩
theorem wB(hT:TOk P T)(he:cF c e a){t:TypeId}{len:Nat}{ps:Array (Nat×Operand)}{el:TypeId}{sz:Nat}{cs:List A}(h:iK T e t len ps=some (el,sz,cs)) :
  ∃ xs,RL c.ρ c.own c.w cs xs∧len≤maxLen∧xs.length=len*sz∧0<sz∧(Instr.buildSlice t len (ps.map fun(i,x)=>(i,a.eval x))).run P c.w=.ok (.slice (some ⟨c.w.heap.size,0,none⟩) len len) (c.w.alloc (.cells xs.toArray el)):=by
 unfold iK at h
 split at h
 ·rename_i ty hty
  split at h
  ·rename_i el' hk
   split at h
   ·rename_i te qs hte hq
    split at h
    ·rename_i hc
     cases hf:lJ (fun i=>some (i*te.size,te.size)) (gJ te.zero len) qs with
     |none=>simp[hf]at h
     |some r =>
      simp only[hf,Option.map_some,Option.some.injEq,Prod.mk.injEq]at h
      obtain⟨rfl,rfl,rfl⟩:=h
      obtain⟨d,hd,hkd⟩:=(hT.facts hty).desc
      rw[hk]at hkd
      obtain rfl:=jH hkd
      obtain⟨h1,h2⟩:=u4 he hq
      obtain⟨xs,h3,h4⟩:=yG _ qs _ _ _ r hf (sU (ρ:=c.ρ) (own:=c.own) (w:=c.w) te.zero len) h1 h2
      obtain⟨z,hz,hzc⟩:=kZ (hT.facts hte) c.w
      obtain⟨c1,c2,c3,c4⟩:=hc
      have hlen:xs.length=len*te.size:=by rw[h4.length,sT _ _ _ _ hf,nZ,c4]
      refine⟨xs,h4,c3,hlen,c2,?_⟩
      have hlist:(ps.map fun(i,x)=>(i,a.eval x)).toList=ps.toList.map fun p=>(p.1,a.eval p.2):=by simp
      have hfill:Instr.fill (fun i=>some (i*te.size,te.size)) ((Array.range (len*te.size)).map (fun i=>(if len*te.size=0 then #[]else z.cells)[i % (if len*te.size=0 then #[]else z.cells).size]!)) (ps.map fun(i,x)=>(i,a.eval x)).toList=some xs.toArray:=by
       rw[hlist,← h3]
       congr 1
       by_cases h0:len*te.size=0
       ·have hl0:len=0:=by
         rcases Nat.mul_eq_zero.1 h0 with h|h
         ·exact h
         ·omega
        subst hl0
        simp
       ·simp only[h0,if_false]
        apply Array.ext'
        have:=oU te.zero (by omega) len
        rw[c4]at this
        rw[hzc]
        simpa[madeCells]using this
      have h24:¬ (len*te.size > 2 ^ 24):=by omega
      by_cases h0:len*te.size=0
      ·simp only[h0,if_true]at hfill
       simp[Instr.buildSlice,run_underlying hd,(hT.facts hte).run_sizeOf,h0,newRow]
       simp at hfill
       simp[hfill]
      ·simp only[h0,if_false]at hfill
       simp only[Instr.buildSlice,Sem.run_bind,run_underlying hd,Result.andThen_ok,(hT.facts hte).run_sizeOf,h24,h0,if_false,hz,Sem.run_pure,hfill]
       simp[newRow]
    ·cases h
   ·cases h
  ·cases h
 ·cases h
end
end Go.Proofs.YtpdphobnchajbaaGreatDoor.Ev
namespace Go.Proofs.YtpdphobnchajbaaGreatDoor.Ev
open Go Go.RowKit
variable{P:Program}{T:Tb}
section
variable{c:Cfg}{e:Env}{a:Act}{o:Oper}{x:A}{H':aG}
theorem A3(hT:TOk P T)(ok:Ok T.gl c)(he:cF c e a){t:TypeId}{len:Nat}{ps:Array (Nat×Operand)}(ho:o.op=.buildSlice t len ps)(h:aR T e c.H (.buildSlice t len ps)=some (x,H')):dV T P c a o x H':=by
 simp only[aR]at h
 split at h
 ·rename_i el sz cs hl
  split at h
  ·simp only[Option.some.injEq,Prod.mk.injEq]at h
   obtain⟨rfl,rfl⟩:=h
   obtain⟨xs,h1,h2,h3,h4,hrun⟩:=wB hT he hl
   have hx:execOp a.eval o=(do pure (.value (← Instr.buildSlice t len (ps.map fun(i,x)=>(i,a.eval x)))):Sem Next):=by simp only[execOp,ho]
   obtain⟨c',k1,k2,k3,k4,k5,-⟩:=vQ (w':=c.w.alloc (.cells xs.toArray el)) (e:=el) (wh:=true) (cur:=xs.toArray) (xs:=xs) ok (.inl rfl) h1 (by simp) (by intro _;simpa using h1.length)
   refine dV.mk hx (y:=.slice (some ⟨c.w.heap.size,0,none⟩) len len) (by rw[k2];exact hrun) k1 k3 k4 ?_
   rw[R]
   refine⟨c.w.heap.size,len,xs.toArray,el,(0,0),k5,rfl,Nat.le_refl _,h2,by rw[k2];exact heap_alloc_new c.w _,by simp[h3]⟩
  ·cases h
 ·cases h
theorem aEq(hT:TOk P T)(ok:Ok T.gl c)(he:cF c e a){t:TypeId}{p q:Operand}(ho:o.op=.store t p q)(h:aR T e c.H (.store t p q)=some (x,H')):dV T P c a o x H':=by
 simp only[aR]at h
 split at h
 ·rename_i b off u ty hp hq hty
  split at h
  ·rename_i k hb
   split at h
   ·rename_i hc
    simp only[Option.some.injEq,Prod.mk.injEq]at h
    obtain⟨rfl,rfl⟩:=h
    obtain⟨c1,c2,c3⟩:=hc
    have hpr:=he.opnd hp
    simp only[R]at hpr
    obtain⟨g,hg,hpa,hsh⟩:=hpr
    have hv:=vN (he.opnd hq)
    obtain⟨cur,xs,hcur,hxs,-,hpre,hwh⟩:=ok.lies hb hg hsh
    have hvl:(a.eval q).cells.size=ty.size:=by rw[← c1,← hv.length];simp
    have hxl:=hxs.length
    have hcl:k.cs.length≤cur.size:=by rw[← hxl];simpa using hpre.length_le
    have hrun:=run_storeCells_at (P:=P) g off k.e (a.eval q).cells.toList 0 cur c.w hcur (by simp;omega) (xS hv c3)
    obtain⟨t',ht'⟩:=hpre
    have hlist:cur.toList.take (off+0)++(a.eval q).cells.toList++cur.toList.drop (off+0+(a.eval q).cells.toList.length)=(xs.take off++(a.eval q).cells.toList++xs.drop (off+ty.size))++t':=by
     rw[← ht']
     simp only[Nat.add_zero,Array.length_toList,hvl]
     rw[List.take_append_of_le_length (by omega),List.drop_append_of_le_length (by omega)]
     simp[List.append_assoc]
    rw[hlist]at hrun
    obtain⟨c',k1,k2,k3,k4,-⟩:=OU (cur':=((xs.take off++(a.eval q).cells.toList++xs.drop (off+ty.size))++t').toArray) ok hb hg hcur (((hxs.take off).append hv).append (hxs.drop (off+ty.size))) (by simp) (by
      have:=congrArg List.length ht'
      simp only[List.length_append,Array.length_toList]at this
      simp[hvl]
      omega) (by
      intro hw
      have:=hwh hw
      have h2:=congrArg List.length ht'
      simp only[List.length_append,Array.length_toList]at h2
      simp[hvl,c1]
      omega)
    refine⟨.skip,undef,c',?_,.inr ⟨rfl,rfl⟩,k1,k3,k4,by rw[R]⟩
    have hn:¬ ((a.eval q).cells.size≠ty.size):=by simpa using hvl
    simp only[execOp,ho,Sem.run_bind,Instr.storeAt,Instr.sureAddr,hpa,Sem.run_pure,Result.andThen_ok,storeVar,(hT.facts hty).run_sizeOf,hn,if_false,hrun,k2]
   ·cases h
  ·cases h
 ·cases h
theorem DM(hT:TOk P T)(ok:Ok T.gl c)(he:cF c e a){t:TypeId}{p q:Operand}(ho:o.op=.makeSlice t p q)(h:aR T e c.H (.makeSlice t p q)=some (x,H')):dV T P c a o x H':=by
 simp only[aR]at h
 split at h
 ·rename_i ty k1 n k2 m hty hp hq
  split at h
  ·rename_i el hk
   split at h
   ·rename_i te hte
    split at h
    ·rename_i hc
     simp only[Option.some.injEq,Prod.mk.injEq]at h
     obtain⟨rfl,rfl⟩:=h
     obtain⟨c1,c2,c3,c4,c5,c6⟩:=hc
     obtain⟨d,hd,hkd⟩:=(hT.facts hty).desc
     rw[hk]at hkd
     obtain rfl:=jH hkd
     obtain⟨i,z,hi,hs,hby,hz,-⟩:=(hT.facts hte).info
     obtain⟨z',hz1,hzc⟩:=kZ (hT.facts hte) c.w
     have hzz:z'=z:=by simpa[zeroValue,typeInfo,hi,hz,eq_comm]using hz1
     subst hzz
     have hpr:=he.opnd hp
     have hqr:=he.opnd hq
     simp only[R]at hpr hqr
     have hb:(i.bytes:Int)*m≤281474976710656:=by rw[hby,Int.mul_comm];omega
     have hm63:m≤9223372036854775807:=by simpa[maxLen]using c4
     have hrun:=run_make (P:=P) c.w t el i z' hd hi hz k1 k2 n m c1 c2 hb hm63
     have hx:execOp a.eval o=(do pure (.value (← Instr.makeSlice t (a.eval p) (a.eval q))):Sem Next):=by simp only[execOp,ho]
     have hmade:(madeCells z'.cells (m.toNat*i.size)).toList=(List.replicate m.toNat te.zero).flatten:=by
      rw[hzc,hs,← c6]
      exact oU te.zero (by omega) m.toNat
     have hlen:(madeCells z'.cells (m.toNat*i.size)).size=m.toNat*te.size:=by rw[size_madeCells,hs]
     obtain⟨c',j1,j2,j3,j4,j5,-⟩:=vQ (w':=c.w.alloc (.cells (madeCells z'.cells (m.toNat*i.size)) el)) (e:=el) (wh:=true) (cur:=madeCells z'.cells (m.toNat*i.size)) ok (.inl rfl) (sU te.zero m.toNat) (by rw[hmade];exact List.prefix_rfl) (by
       intro _
       rw[hlen,nZ,c6])
     refine dV.mk hx (y:=.slice (some ⟨c.w.heap.size,0,none⟩) n.toNat m.toNat) (by rw[j2,hpr,hqr];exact hrun) j1 j3 j4 ?_
     rw[R]
     refine⟨c.w.heap.size,m.toNat,_,el,(0,0),j5,rfl,by omega,by omega,by rw[j2];exact heap_alloc_new c.w _,by rw[hlen];omega⟩
    ·cases h
   ·cases h
  ·cases h
 ·cases h
theorem UT(ok:Ok T.gl c){u:A}{y:Value}{sz m:Nat}{news:List A}(h:aR.srcL c.H sz u=some (m,news))(hn:news.length=m*sz)(hr:R c.ρ c.own c.w u y) :
  (∀ w,(Builtin.lenOf y).run P w=.ok m w)∧∃ vs,RL c.ρ c.own c.w news vs∧∀(j:Nat) (w':World),j≤m→(∀ ad,w'.cell? ad=c.w.cell? ad)→(Builtin.firstCells sz j y).run P w'=.ok (vs.take (j*sz)).toArray w':=by
 have lie:∀(g off cap:Nat) (vs:List Value),y=.slice (some ⟨g,off,none⟩) m cap→RL c.ρ c.own c.w news vs→p7 c.w g off vs→(∀ w,(Builtin.lenOf y).run P w=.ok m w)∧∃ vs,RL c.ρ c.own c.w news vs∧∀(j:Nat) (w':World),j≤m→(∀ ad,w'.cell? ad=c.w.cell? ad)→(Builtin.firstCells sz j y).run P w'=.ok (vs.take (j*sz)).toArray w':=by
  intro g off cap vs hy h1 h2
  subst hy
  refine⟨fun w=>by simp[Builtin.lenOf],vs,h1,fun j w' hj hw=>?_⟩
  have hvl:=h1.length
  have hjm:j*sz≤m*sz:=Nat.mul_le_mul_right _ hj
  refine run_firstCells_some w' sz j ⟨g,off,none⟩ m cap _ (by rw[List.length_take];omega) fun i v hv=>?_
  rw[Addr.add_lit,hw]
  exact h2.take _ i v hv
 unfold aR.srcL at h
 split at h
 ·rename_i n cs
  simp only[Option.some.injEq,Prod.mk.injEq]at h
  obtain⟨rfl,rfl⟩:=h
  simp only[R]at hr
  rcases hr with⟨rfl,rfl,ad,cap,rfl⟩|⟨g,off,cap,xs,rfl,h0,h1,h2,h3,h4⟩
  ·refine⟨fun w=>by simp[Builtin.lenOf],[],RL.nil,fun j w' hj _=>?_⟩
   obtain rfl:j=0:=by omega
   cases ad<;>simp[Builtin.firstCells,loadCells,loadCellsFrom]
  ·exact lie g off cap xs rfl h3.open_ h4
 ·simp only[Option.some.injEq,Prod.mk.injEq]at h
  obtain⟨rfl,rfl⟩:=h
  simp only[R]at hr
  subst hr
  refine⟨fun w=>by simp[Builtin.lenOf],[],RL.nil,fun j w' hj _=>?_⟩
  simp[Builtin.firstCells]
 ·simp only[Option.some.injEq,Prod.mk.injEq]at h
  obtain⟨rfl,rfl⟩:=h
  simp only[R]at hr
  subst hr
  refine⟨fun w=>by simp[Builtin.lenOf],[],RL.nil,fun j w' hj _=>?_⟩
  obtain rfl:j=0:=by omega
  simp[Builtin.firstCells,loadCells,loadCellsFrom]
 ·rename_i b off n s
  split at h
  ·rename_i k hb
   split at h
   ·rename_i hc
    simp only[Option.some.injEq,Prod.mk.injEq]at h
    obtain⟨rfl,rfl⟩:=h
    obtain⟨rfl,hc⟩:=hc
    simp only[R]at hr
    obtain⟨g,cap,cur,e',fz,hg,rfl,-,-,hcl,-⟩:=hr
    obtain⟨cur1,xs,-,h2,h3,-⟩:=ok.lies hb hg ⟨cur,e',fz,hcl⟩
    refine lie g off cap ((xs.drop off).take (n*s)) rfl ((h2.drop off).take _) ?_
    have:=(h3.drop off).take (n*s)
    simpa using this
   ·cases h
  ·cases h
 ·cases h
theorem aNt{d:TypeDesc}{k:IntKind}(h:kOf d=.int k):d=.int k:=by
 cases d<;>first
  |(simp only[kOf,K.int.injEq]at h;subst h;rfl)
  |(simp[kOf]at h;done)
theorem aMa{d:TypeDesc}{e:TypeId}(h:kOf d=.ptr e):d=.pointer e:=by
 cases d<;>first
  |(simp only[kOf,K.ptr.injEq]at h;subst h;rfl)
  |(simp[kOf]at h;done)
structure Src(P:Program)(te:Ty)(el t t' ty:TypeId)(y:Value)(m:Nat)(vs:List Value)(w:World):Prop where
 inn:∀{g n cap:Nat} {cur:Array Value} {e:TypeId},w.heap[g]?=some (.cells cur e (0,0))→n+m≤cap→n*te.size+vs.length≤cur.size →
  (Builtin.append_ #[t,t'] ty #[.slice (some ⟨g,0,none⟩) n cap,y]).run P w=.ok (.slice (some ⟨g,0,none⟩) (n+m) cap) (w.setRow g (cur.toList.take (n*te.size)++vs++cur.toList.drop (n*te.size+vs.length)).toArray)
 out:∀{s:Value} {xs:List Value} {base:Option Addr} {n cap:Nat},s=.slice base n cap→(Builtin.firstCells te.size n s).run P w.drew=.ok xs.toArray w.drew→cap<n+m→n+m≤maxLen→(n+m)*te.bytes≤2 ^ 47 →
  ∃ z:Value,(zeroValue el).run P w.drew=.ok z w.drew∧(Builtin.append_ #[t,t'] ty #[s,y]).run P w=.ok (.slice (some ⟨w.heap.size,0,none⟩) (n+m) (grownCap w (n+m) cap el)) (w.drew.alloc (.cells (xs.toArray++(vs.toArray++Builtin.zeroCells z.cells (grownCap w (n+m) cap el-(n+m)))) el))
 nil:m=0→(Builtin.append_ #[t,t'] ty #[.slice none 0 0,y]).run P w=.ok (.slice none 0 0) w
theorem aD9{t t' ty el:TypeId}{te:Ty}(hT:TOk P T)(hte:T el=some te)(ht:P.underlying t=some (.slice el)){d':TypeDesc}(ht':P.underlying t'=some d')(hd':∀ k,d'≠.int k){w:World}{y:Value}{m:Nat}{vs:List Value}
  (hl:∀ w,(Builtin.lenOf y).run P w=.ok m w) (hf:(Builtin.firstCells te.size m y).run P w=.ok vs.toArray w) (hf1:(Builtin.firstCells te.size m y).run P w.drew=.ok vs.toArray w.drew) (hv:∀ v∈vs,v.oneCell'=true) (hvl:vs.length=m*te.size):Src P te el t t' ty y m vs w:=by
 have hdd:(match d' with|.int _=>true|_=>false)=false:=by
  cases d'<;>first|rfl|exact absurd rfl (hd' _)
 refine⟨?_,?_,?_⟩
 ·intro g n cap cur e hcur hroom hfit
  have hst:=run_storeCells_at P g (n*te.size) e vs 0 cur w hcur (by simpa using hfit) hv
  simp only[Nat.add_zero]at hst
  simp[Builtin.append_,run_underlying ht,run_underlying ht',(hT.facts hte).run_sizeOf,hl,hroom,hf,Addr.add_lit,hst]
 ·intro s xs base n cap hs hfs hroom h63 hby
  obtain⟨i,z,hi,his,hib,hz,-⟩:=(hT.facts hte).info
  have hzr:(zeroValue el).run P w.drew=.ok z w.drew:=by simp[zeroValue,typeInfo,hi,hz]
  refine⟨z,hzr,?_⟩
  subst hs
  have h1:¬ (n+m≤cap):=by omega
  have hfit:=growslice_fits (bytes:=te.bytes) hroom (by simpa using hby)
  have h2:¬ (Builtin.nextslicecap (n+m) cap*i.bytes > 2 ^ 48):=by rw[hib];omega
  have hns:¬ (281474976710656<Builtin.nextslicecap (n+m) cap*i.bytes):=by simpa using h2
  have h63':¬ (9223372036854775807<(n:Int)+m):=by simp only[maxLen]at h63;omega
  simp[Builtin.append_,run_underlying ht,run_underlying ht',(hT.facts hte).run_sizeOf,hl,h1,typeInfo,hi,hns,h63',hfs,hf1,hzr,newRow,IntKind.max,IntKind.signed,IntKind.bits,Question.forced,grownCap]
 ·intro hm
  subst hm
  obtain rfl:vs=[]:=List.eq_nil_of_length_eq_zero (by rw[hvl];simp)
  simp[Builtin.append_,run_underlying ht,run_underlying ht',(hT.facts hte).run_sizeOf,hl,hf]
theorem aBT{t t' ty el:TypeId}{te:Ty}(hT:TOk P T)(hte:T el=some te)(ht:P.underlying t=some (.slice el)){k:IntKind}(ht':P.underlying t'=some (.int k)){w:World}{m:Nat}{vs:List Value}(hm:m≤maxLen)
  (hz:∀ w,(do pure (Builtin.zeroCells (← zeroValue el).cells m):Sem (Array Value)).run P w=.ok vs.toArray w) (hv:∀ v∈vs,v.oneCell'=true) (hvl:vs.length=m*te.size) (hbig:m*te.bytes≤2 ^ 47):Src P te el t t' ty (.int .i64 m) m vs w:=by
 obtain⟨i,z,hi,his,hib,hzv,-⟩:=(hT.facts hte).info
 have hzr:∀ w,(zeroValue el).run P w=.ok z w:=fun w=>by simp[zeroValue,typeInfo,hi,hzv]
 have hvz:Builtin.zeroCells z.cells m=vs.toArray:=by
  have:=hz w
  simpa[hzr]using this
 have hwr:IntKind.i64.wrap (m:Int)=m:=by
  simp only[maxLen]at hm
  rw[IntKind.wrap_i64]
  omega
 have hb1:¬ ((m:Int)*i.bytes > 2 ^ 48):=by
  rw[hib]
  have:((m*te.bytes:Nat):Int)≤((2 ^ 47:Nat):Int):=Int.ofNat_le.2 hbig
  rw[Int.natCast_mul]at this
  omega
 have hns1:¬ (281474976710656<(m:Int)*i.bytes):=by simpa using hb1
 have hneg:¬ ((m:Int)<0):=by omega
 have hmz:m*te.size=0→vs=[]:=fun h=>List.eq_nil_of_length_eq_zero (by rw[hvl,h])
 have happ:∀ w,((if m*te.size=0 then pure #[]else do pure (Builtin.zeroCells (← zeroValue el).cells m):Sem (Array Value))).run P w=.ok vs.toArray w:=by
  intro w
  split
  ·rename_i h
   rw[hmz h]
   rfl
  ·exact hz w
 refine⟨?_,?_,?_⟩
 ·intro g n cap cur e hcur hroom hfit
  have hst:=run_storeCells_at P g (n*te.size) e vs 0 cur w hcur (by simpa using hfit) hv
  simp only[Nat.add_zero]at hst
  have ha:=happ w
  simp only[Builtin.append_]
  simp[run_underlying ht,run_underlying ht',(hT.facts hte).run_sizeOf,asInt,asIntOf,hwr,hneg,typeInfo,hi,hns1,hroom,Addr.add_lit]
  by_cases h0:m*te.size=0
  ·have hv0:=hmz h0
   subst hv0
   rw[if_pos h0,hst]
   simp
  ·rw[if_neg h0]
   simp[hzr,hvz,hst]
 ·intro s xs base n cap hs hfs hroom h63 hby
  refine⟨z,hzr _,?_⟩
  subst hs
  have h1:¬ (n+m≤cap):=by omega
  have hfit:=growslice_fits (bytes:=te.bytes) hroom (by simpa using hby)
  have h2:¬ (Builtin.nextslicecap (n+m) cap*i.bytes > 2 ^ 48):=by rw[hib];omega
  have hns:¬ (281474976710656<Builtin.nextslicecap (n+m) cap*i.bytes):=by simpa using h2
  have h63':¬ (9223372036854775807<(n:Int)+m):=by simp only[maxLen]at h63;omega
  by_cases h0:m*te.size=0
  ·have hv0:=hmz h0
   subst hv0
   simp[Builtin.append_,run_underlying ht,run_underlying ht',(hT.facts hte).run_sizeOf,asInt,asIntOf,hwr,hneg,typeInfo,hi,hns1,h1,hns,h63',hfs,h0,hzr,newRow,IntKind.max,IntKind.signed,IntKind.bits,Question.forced,grownCap]
  ·simp[Builtin.append_,run_underlying ht,run_underlying ht',(hT.facts hte).run_sizeOf,asInt,asIntOf,hwr,hneg,typeInfo,hi,hns1,h1,hns,h63',hfs,h0,hzr,hvz,newRow,IntKind.max,IntKind.signed,IntKind.bits,Question.forced,grownCap]
 ·intro hm
  subst hm
  simp[Builtin.append_,run_underlying ht,run_underlying ht',(hT.facts hte).run_sizeOf,asInt,asIntOf,typeInfo,hi,IntKind.wrap_i64]
theorem YY(hT:TOk P T)(ok:Ok T.gl c)(he:cF c e a){cl:Call}(ho:o.op=.call cl)(hc:cl.callee=.builtin .append)(h:aR T e c.H (.call cl)=some (x,H')):dV T P c a o x H':=by
 simp only[aR,hc]at h
 have hx:execOp a.eval o=(do pure (.value (← Builtin.append_ cl.argTypes o.type (cl.args.map a.eval))):Sem Next):=by simp[execOp,ho,resolve,hc,invoke,builtin]
 split at h
 ·rename_i s u t t' hargs htys
  ·split at h
   ·rename_i ty hty
    split at h
    ·rename_i el hk
     split at h
     ·rename_i te hte
      split at h
      ·rename_i m news hsrc
       split at h
       ·rename_i hcond
        obtain⟨q1,q2,q3⟩:=hcond
        obtain⟨d,hd,hkd⟩:=(hT.facts hty).desc
        rw[hk]at hkd
        obtain rfl:=jH hkd
        have hrl:=he.opnds hargs
        rw[RL]at hrl
        obtain⟨y1,ys,hys,hr1,hr2⟩:=hrl
        obtain⟨y2,rfl,hr3⟩:=hr2.single
        have hargs':cl.args.map a.eval=#[y1,y2]:=by
         apply Array.ext'
         simpa using hys
        have htys':cl.argTypes=#[t,t']:=by
         apply Array.ext'
         simpa using htys
        rw[hargs',htys']at hx
        have hone0:∀ vs,RL c.ρ c.own c.w news vs→∀ v∈vs,v.oneCell'=true:=fun vs hvs=>xS hvs q3
        have hsrc':∃ vs,RL c.ρ c.own c.w news vs∧((m=0∨m*te.bytes≤2 ^ 47)→Src P te el t t' o.type y2 m vs c.w):=by
         unfold aR.srcT at hsrc
         cases htt:Nat.beq t t' with
         |true =>
          obtain rfl:=Nat.eq_of_beq_eq_true htt
          rw[htt,cond_true]at hsrc
          obtain⟨hlen,vs,hvs,hfirst⟩:=UT (P:=P) ok hsrc q1 hr3
          have hvl:=hvs.length
          have hf0:=hfirst m c.w (Nat.le_refl _) (fun _=>rfl)
          have hf1:=hfirst m c.w.drew (Nat.le_refl _) (fun _=>rfl)
          have htk:vs.take (m*te.size)=vs:=List.take_of_length_le (by omega)
          rw[htk]at hf0 hf1
          exact⟨vs,hvs,fun _=>aD9 hT hte hd hd (by intro k;simp) hlen hf0 hf1 (hone0 vs hvs) (by rw[hvl,q1])⟩
         |false =>
          rw[htt,cond_false]at hsrc
          split at hsrc
          ·rename_i ty2 hty2
           obtain⟨d2,hd2,hkd2⟩:=(hT.facts hty2).desc
           split at hsrc
           ·rename_i str hk2
            rw[hk2]at hkd2
            obtain rfl:=tJ hkd2
            cases hs1:Nat.beq te.size 1 with
            |false=>simp[hs1]at hsrc
            |true =>
             have hs1:=Nat.eq_of_beq_eq_true hs1
             rw[hs1]at hsrc
             simp only[show Nat.beq 1 1=true from rfl,cond_true,Option.some.injEq,Prod.mk.injEq]at hsrc
             obtain⟨rfl,rfl⟩:=hsrc
             rw[R]at hr3
             subst hr3
             have hvs:RL c.ρ c.own c.w (DH str.data.toList) (Lib.strCells str):=by
              have:=RL.exact (ρ:=c.ρ) (own:=c.own) (w:=c.w) (Lib.strCells str)
              simpa[DH,Lib.strCells,Function.comp_def]using this
             refine⟨Lib.strCells str,hvs,fun _=>aD9 hT hte hd hd2 (by intro k;simp) (fun w=>by simp[Builtin.lenOf]) ?_ ?_ (hone0 _ hvs) (by rw[Lib.strCells_length,hs1,Nat.mul_one])⟩
             ·exact Lib.run_firstCells_string c.w te.size str
             ·exact Lib.run_firstCells_string c.w.drew te.size str
           ·rename_i k2 l hk2
            rw[hk2]at hkd2
            obtain rfl:=aNt hkd2
            split at hsrc
            ·rename_i hl0
             simp only[Option.some.injEq,Prod.mk.injEq]at hsrc
             obtain⟨rfl,rfl⟩:=hsrc
             rw[R]at hr3
             subst hr3
             have hln:((l.toNat:Nat):Int)=l:=by omega
             have hvs:RL c.ρ c.own c.w (gJ te.zero l.toNat) (List.replicate l.toNat te.zero).flatten:=sU te.zero l.toNat
             have hvl:(List.replicate l.toNat te.zero).flatten.length=l.toNat*te.size:=by rw[hvs.length,q1]
             refine⟨_,hvs,fun hbig=>?_⟩
             have hz0:=aBT (ty:=o.type) (w:=c.w) (m:=l.toNat) (vs:=(List.replicate l.toNat te.zero).flatten) hT hte hd hd2 (by omega) (fun w=>?_) (hone0 _ hvs) hvl ?_
             rw[hln]at hz0
             exact hz0
             ·obtain⟨z,hz,hzc⟩:=kZ (hT.facts hte) w
              simp only[Sem.run_bind,hz,Result.andThen_ok,Sem.run_pure,hzc]
              congr 1
              apply Array.ext'
              rw[← oU te.zero (by omega) l.toNat]
              rfl
             ·rcases hbig with h|h
              ·rw[h,Nat.zero_mul];exact Nat.zero_le _
              ·exact h
            ·cases hsrc
           ·cases hsrc
          ·cases hsrc
        obtain⟨vs,hvs,hsrc'⟩:=hsrc'
        have hvl:=hvs.length
        have hone:=hone0 vs hvs
        split at h
        ·simp only[R]at hr1
         subst hr1
         split at h
         ·rename_i hm
          subst hm
          simp only[Option.some.injEq,Prod.mk.injEq]at h
          obtain⟨rfl,rfl⟩:=h
          exact dV.mk hx (y:=.slice none 0 0) (c':=c) ((hsrc' (.inl rfl)).nil rfl) rfl (To.refl c) ok (by rw[R])
         ·rename_i hm
          split at h
          ·rename_i hb
           simp only[Option.some.injEq,Prod.mk.injEq]at h
           obtain⟨rfl,rfl⟩:=h
           obtain⟨z,hz,hrun⟩:=(hsrc' (.inr hb.2)).out (s:=.slice none 0 0) (xs:=[]) rfl (by simp[Builtin.firstCells]) (by omega) (by simpa using hb.1) (by simpa using hb.2)
           simp only[Nat.zero_add]at hrun
           have hge:=grownCap_ge c.w m 0 el
           have hle:=grownCap_le_maxLen c.w m 0 el hb.1
           obtain⟨z',hz',hzc⟩:=kZ (hT.facts hte) c.w.drew
           obtain rfl:z'=z:=by rw[hz]at hz';simpa[eq_comm]using hz'
           obtain⟨c',k1,k2,k3,k4,k5,-⟩:=vQ (e:=el) (wh:=false) (cs:=news) (xs:=vs) ok (.inr rfl) hvs (cur:=[].toArray++(vs.toArray++Builtin.zeroCells z'.cells (grownCap c.w m 0 el-m))) (by simp) (by simp)
           refine dV.mk hx (by rw[k2];exact hrun) k1 k3 k4 ?_
           rw[R]
           refine⟨c.w.heap.size,_,_,el,(0,0),k5,rfl,hge,hle,by rw[k2];exact heap_alloc_new c.w.drew _,?_⟩
           simp only[Array.size_append,List.size_toArray,List.length_nil,size_zeroCells,hzc,Nat.zero_add,hvl,q1,q2]
           rw[← Nat.add_mul]
           refine Nat.le_of_eq ?_
           congr 1
           omega
          ·cases h
        ·rename_i b n sz
         split at h
         ·rename_i k hb
          split at h
          ·rename_i hcd
           simp only[Option.some.injEq,Prod.mk.injEq]at h
           obtain⟨rfl,rfl⟩:=h
           obtain⟨rfl,rfl,d3,d4,d5⟩:=hcd
           simp only[R]at hr1
           obtain⟨g,cap,cur0,e0,fz0,hg,rfl,hn,hcap,hcur0,hsum⟩:=hr1
           obtain⟨cur,xs,hcur,hxs,hlie,hpre,-⟩:=ok.lies hb hg ⟨cur0,e0,fz0,hcur0⟩
           rw[hcur]at hcur0
           simp only[Option.some.injEq,Obj.cells.injEq]at hcur0
           obtain⟨rfl,rfl,-⟩:=hcur0
           have hxl:=hxs.length
           simp only[Nat.zero_add]at hsum
           have hnew:RL c.ρ c.own c.w (k.cs.take (n*te.size)++news) (xs.take (n*te.size)++vs):=(hxs.take _).append hvs
           by_cases hroom:n+m≤cap
           ·have hfit:n*te.size+vs.length≤cur.size:=by
             refine Nat.le_trans ?_ hsum
             rw[hvl,q1,← Nat.add_mul]
             exact Nat.mul_le_mul_right _ hroom
            have hrun:=(hsrc' (.inr (by have:=Nat.add_mul n m te.bytes;omega))).inn hcur hroom hfit
            have hpre':xs.take (n*te.size)=cur.toList.take (n*te.size):=by
             obtain⟨t',ht'⟩:=hpre
             rw[← ht',List.take_append_of_le_length (by omega)]
            rw[← hpre']at hrun
            obtain⟨c',k1,k2,k3,k4,k5⟩:=aJF (xs':=xs.take (n*te.size)++vs) (cur':=(xs.take (n*te.size)++vs++cur.toList.drop (n*te.size+vs.length)).toArray) ok hb hg hcur hnew (by simp) (by
             simp
             omega)
            refine dV.mk hx (by rw[k2];exact hrun) k1 k3 k4 ?_
            rw[R]
            refine⟨g,cap,_,k.e,(0,0),k5,rfl,hroom,hcap,by rw[k2];exact setRow_heap c.w g cur _ k.e (0,0) hcur,?_⟩
            simp
            omega
           ·have hfs:(Builtin.firstCells te.size n (.slice (some ⟨g,0,none⟩) n cap)).run P c.w.drew=.ok (xs.take (n*te.size)).toArray c.w.drew:=by
             refine run_firstCells_some c.w.drew te.size n ⟨g,0,none⟩ n cap _ (by rw[List.length_take];omega) fun i v hv=>?_
             rw[Addr.add_lit]
             exact hlie.take _ i v hv
            obtain⟨z,hz,hrun⟩:=(hsrc' (.inr (by have:=Nat.add_mul n m te.bytes;omega))).out rfl hfs (by omega) d4 d5
            have hge:=grownCap_ge c.w (n+m) cap k.e
            have hle:=grownCap_le_maxLen c.w (n+m) cap k.e d4
            obtain⟨z',hz',hzc⟩:=kZ (hT.facts hte) c.w.drew
            obtain rfl:z'=z:=by rw[hz]at hz';simpa[eq_comm]using hz'
            obtain⟨t1,o1⟩:=DN ok b
            obtain⟨c',k1,k2,k3,k4,k5,-⟩:=vQ (e:=k.e) (wh:=false) (cs:=k.cs.take (n*te.size)++news) (xs:=xs.take (n*te.size)++vs) o1 (.inr rfl) hnew (cur:=(xs.take (n*te.size)).toArray++(vs.toArray++Builtin.zeroCells z'.cells (grownCap c.w (n+m) cap k.e-(n+m)))) (by simp) (by simp)
            refine dV.mk hx (by rw[k2];exact hrun) k1 (t1.trans k3) k4 ?_
            rw[R]
            refine⟨c.w.heap.size,_,_,k.e,(0,0),by simpa using k5,rfl,hge,hle,by rw[k2];exact heap_alloc_new c.w.drew _,?_⟩
            have hx1:min (n*te.size) xs.length=n*te.size:=by omega
            simp only[Array.size_append,List.size_toArray,List.length_take,size_zeroCells,hzc,Nat.zero_add,hvl,q1,q2,hx1]
            rw[← Nat.add_mul,← Nat.add_mul]
            refine Nat.le_of_eq ?_
            congr 1
            omega
          ·cases h
         ·cases h
        ·cases h
       ·cases h
      ·cases h
     ·cases h
    ·cases h
   ·cases h
 ·cases h
theorem xI(hT:TOk P T)(ok:Ok T.gl c)(he:cF c e a){cl:Call}(ho:o.op=.call cl)(hc:cl.callee=.builtin .unsafeString)(h:aR T e c.H (.call cl)=some (x,H')):dV T P c a o x H':=by
 simp only[aR,hc]at h
 have hx:execOp a.eval o=(do pure (.value (← Builtin.unsafeString_ cl.argTypes o.type (cl.args.map a.eval))):Sem Next):=by simp[execOp,ho,resolve,hc,invoke,builtin]
 split at h
 ·rename_i p n pt hargs hpt
  have hrl:=he.opnds hargs
  rw[RL]at hrl
  obtain⟨y1,ys,hys,hr1,hr2⟩:=hrl
  obtain⟨y2,rfl,hr3⟩:=hr2.single
  rw[R]at hr3
  subst hr3
  have hargs':cl.args.map a.eval=#[y1,.int .i64 n]:=by
   apply Array.ext'
   simpa using hys
  rw[hargs']at hx
  have hdef:∀ y1:Value,Builtin.unsafeString_ cl.argTypes o.type #[y1,.int .i64 n]=Builtin.unsafeString_ #[pt,pt] o.type #[y1,.int .i64 n]:=by
   intro y1
   obtain⟨rest,hrest⟩:∃ rest,cl.argTypes=⟨pt::rest⟩:=by
    cases hat:cl.argTypes with
    |mk l =>
     rw[hat]at hpt
     cases l with
     |nil=>simp at hpt
     |cons q l =>
      simp at hpt
      exact⟨l,by rw[hpt]⟩
   rw[hrest]
   rfl
  unfold WS at h
  split at h
  ·split at h
   ·rename_i hn
    subst hn
    simp only[Option.some.injEq,Prod.mk.injEq]at h
    obtain⟨rfl,rfl⟩:=h
    rw[R]at hr1
    subst hr1
    refine dV.mk hx (y:=.string .empty) (c':=c) ?_ rfl (To.refl c) ok (by rw[R])
    rw[hdef]
    exact Lib.run_unsafeString_none c.w pt pt o.type none
   ·cases h
  ·rename_i b
   split at h
   ·rename_i ty k hty hb
    split at h
    ·rename_i el hk
     split at h
     ·rename_i te l hte hl
      split at h
      ·rename_i hcond
       obtain⟨q1,q2,q3,q4,q5⟩:=hcond
       simp only[Option.some.injEq,Prod.mk.injEq]at h
       obtain⟨rfl,rfl⟩:=h
       obtain⟨d,hd,hkd⟩:=(hT.facts hty).desc
       rw[hk]at hkd
       obtain rfl:=aMa hkd
       rw[R]at hr1
       obtain⟨g,hg,rfl,cur0,e0,fz0,hcur0⟩:=hr1
       obtain⟨cur,xs,hcur,hxs,hlie,hpre,-⟩:=ok.lies hb hg ⟨cur0,e0,fz0,hcur0⟩
       have hxl:=hxs.length
       have hb1:=rP (hxs.take n.toNat) hl
       have hll:l.length≤xs.length:=by
        have:=congrArg List.length hb1
        simp only[List.length_take,Lib.byteCells_length]at this
        omega
       have hlc:xs.length≤cur.size:=by
        obtain⟨t',ht'⟩:=hpre
        have:=congrArg List.length ht'
        simp only[List.length_append,Array.length_toList]at this
        omega
       obtain⟨i,z,hi,his,-⟩:=(hT.facts hte).info
       have hcells:P.cellsOf el=1:=by
        unfold Program.cellsOf
        rw[hi]
        simp[his,q1]
       have hsh:c.w.shape? g=some (el,cur.size):=by
        subst q2
        simp[World.shape?,hcur]
       have hne:l≠[]:=by
        rintro rfl
        simp at q4
        omega
       have hnl:n=(l.length:Int):=by omega
       have hrun:=Lib.run_unsafeString_row c.w pt pt o.type el hd hcells g cur.size hsh l hne (by omega) (by simpa[maxLen]using q5) (fun j u hj=>by
        rw[Addr.add_lit]
        refine hlie j _ ?_
        have h9:(xs.take n.toNat)[j]?=some (.int .u8 u.toNat):=by rw[hb1];simp[Lib.byteCells,hj]
        rw[List.getElem?_take]at h9
        split at h9
        ·simpa using h9
        ·cases h9)
       rw[← hnl]at hrun
       obtain⟨t1,o1⟩:=Y4 ok hb hg hcur 0 l.length (by omega)
       refine dV.mk hx (y:=.string ⟨l.toArray⟩) (c':=⟨c.ρ,c.own,c.H.set b none,c.w.freeze ⟨g,0,none⟩ l.length⟩) ?_ rfl t1 o1 (by rw[R])
       rw[hdef]
       exact hrun
      ·cases h
     ·cases h
    ·cases h
   ·cases h
  ·cases h
 ·cases h
end
end Go.Proofs.YtpdphobnchajbaaGreatDoor.Ev
namespace Go.Proofs.YtpdphobnchajbaaGreatDoor.Ev
open Go Go.RowKit
variable{P:Program}{T:Tb}
section
variable{c:Cfg}{e:Env}{a:Act}{o:Oper}{x:A}{H':aG}
theorem aK4(hT:TOk P T)(ok:Ok T.gl c)(he:cF c e a){cl:Call}(ho:o.op=.call cl)(hc:cl.callee=.builtin .copy)(h:aR T e c.H (.call cl)=some (x,H')):dV T P c a o x H':=by
 simp only[aR,hc]at h
 have hx:execOp a.eval o=(do pure (.value (← Builtin.copy_ cl.argTypes o.type (cl.args.map a.eval))):Sem Next):=by simp[execOp,ho,resolve,hc,invoke,builtin]
 split at h
 ·rename_i s u ty hargs hty
  cases ht:cl.argTypes[0]? with
  |none=>simp[ht]at hty
  |some t =>
   simp only[ht,Option.bind_some]at hty
   split at h
   ·rename_i el hk
    split at h
    ·rename_i te hte
     split at h
     ·rename_i m news hsrc
      obtain⟨d,hd,hkd⟩:=(hT.facts hty).desc
      rw[hk]at hkd
      obtain rfl:=jH hkd
      have hrl:=he.opnds hargs
      rw[RL]at hrl
      obtain⟨y1,ys,hys,hr1,hr2⟩:=hrl
      obtain⟨y2,rfl,hr3⟩:=hr2.single
      have hargs':cl.args.map a.eval=#[y1,y2]:=by
       apply Array.ext'
       simpa using hys
      rw[hargs']at hx
      have none_:∀(ad:Option Addr) (cap:Nat) (k:Nat),(∀ w,(Builtin.lenOf y2).run P w=.ok k w)→(Builtin.firstCells te.size 0 y2).run P c.w=.ok #[] c.w→y1=.slice ad 0 cap→(Builtin.copy_ cl.argTypes o.type #[y1,y2]).run P c.w=.ok (.int .i64 0) c.w:=by
       intro ad cap k h1 h2 h3
       subst h3
       cases ad<;>simp[Builtin.copy_,ht,run_underlying hd,(hT.facts hte).run_sizeOf,h1,h2,storeCells,goInt]
      have len0:∃ k,(∀ w,(Builtin.lenOf y2).run P w=.ok k w)∧(Builtin.firstCells te.size 0 y2).run P c.w=.ok #[] c.w:=by
       unfold aR.srcL at hsrc
       split at hsrc
       ·simp only[R]at hr3
        rcases hr3 with⟨-,-,ad,cap,rfl⟩|⟨g,off,cap,xs,rfl,-⟩
        ·exact⟨_,fun w=>by simp[Builtin.lenOf];rfl,by cases ad<;>simp[Builtin.firstCells,loadCells,loadCellsFrom]⟩
        ·exact⟨_,fun w=>by simp[Builtin.lenOf];rfl,by simp[Builtin.firstCells,loadCells,loadCellsFrom]⟩
       ·simp only[R]at hr3
        subst hr3
        exact⟨_,fun w=>by simp[Builtin.lenOf];rfl,by simp[Builtin.firstCells]⟩
       ·simp only[R]at hr3
        subst hr3
        exact⟨_,fun w=>by simp[Builtin.lenOf];rfl,by simp[Builtin.firstCells,loadCells,loadCellsFrom]⟩
       ·simp only[R]at hr3
        obtain⟨g,cap,cur0,e0,fz0,hg,rfl,-⟩:=hr3
        exact⟨_,fun w=>by simp[Builtin.lenOf];rfl,by simp[Builtin.firstCells,loadCells,loadCellsFrom]⟩
       ·cases hsrc
      split at h
      ·rename_i b off n sz
       split at h
       ·rename_i k hb
        split at h
        ·rename_i hcd
         simp only[Option.some.injEq,Prod.mk.injEq]at h
         obtain⟨rfl,rfl⟩:=h
         obtain⟨rfl,d2,d3,d4⟩:=hcd
         obtain⟨hlen,vs,hvs,hfirst⟩:=UT (P:=P) ok hsrc d2 hr3
         have hf0:=hfirst (min m n) c.w (Nat.min_le_left _ _) (fun _=>rfl)
         simp only[R]at hr1
         obtain⟨g,cap,cur0,e0,fz0,hg,rfl,hn,hcap,hcur0,hsum⟩:=hr1
         obtain⟨cur,xs,hcur,hxs,hlie,hpre,hwh⟩:=ok.lies hb hg ⟨cur0,e0,fz0,hcur0⟩
         have hxl:=hxs.length
         have hnew:=hvs.take (min m n*te.size)
         have hone:=xS hnew d4
         have hvl:(vs.take (min m n*te.size)).length=min m n*te.size:=by
          rw[List.length_take,hvs.length,d2]
          have:min m n*te.size≤m*te.size:=Nat.mul_le_mul_right _ (Nat.min_le_left _ _)
          omega
         have hcl:k.cs.length≤cur.size:=by rw[← hxl];simpa using hpre.length_le
         have hst:=run_storeCells_at (P:=P) g off k.e (vs.take (min m n*te.size)) 0 cur c.w hcur (by omega) hone
         obtain⟨t',ht'⟩:=hpre
         have hlist:cur.toList.take (off+0)++vs.take (min m n*te.size)++cur.toList.drop (off+0+(vs.take (min m n*te.size)).length)=(xs.take off++vs.take (min m n*te.size)++xs.drop (off+min m n*te.size))++t':=by
          rw[← ht',hvl]
          simp only[Nat.add_zero]
          rw[List.take_append_of_le_length (by omega),List.drop_append_of_le_length (by omega)]
          simp[List.append_assoc]
         rw[hlist]at hst
         obtain⟨c',k1,k2,k3,k4,-⟩:=OU (cur':=((xs.take off++vs.take (min m n*te.size)++xs.drop (off+min m n*te.size))++t').toArray) ok hb hg hcur (((hxs.take off).append hnew).append (hxs.drop (off+min m n*te.size))) (by simp) (by
           have:=congrArg List.length ht'
           simp only[List.length_append,Array.length_toList]at this
           simp only[List.size_toArray,List.length_append,hvl,List.length_drop,List.length_take]
           omega) (by
           intro hw
           have:=hwh hw
           have h2:=congrArg List.length ht'
           have h3:=hnew.length
           rw[hvl]at h3
           simp only[List.length_append,Array.length_toList]at h2
           simp only[List.size_toArray,List.length_append,hvl,List.length_drop,List.length_take]at h3 ⊢
           omega)
         refine dV.mk hx (y:=.int .i64 (min m n:Nat)) ?_ k1 k3 k4 (by rw[R])
         rw[k2]
         have hmn:Nat.min m n=min m n:=rfl
         simp[Builtin.copy_,ht,run_underlying hd,(hT.facts hte).run_sizeOf,hlen,hmn,hf0,hst,goInt]
        ·cases h
       ·cases h
      ·simp only[Option.some.injEq,Prod.mk.injEq]at h
       obtain⟨rfl,rfl⟩:=h
       simp only[R]at hr1
       obtain⟨k,h1,h2⟩:=len0
       exact dV.mk hx (none_ none 0 k h1 h2 hr1) rfl (To.refl c) ok (by rw[R])
      ·simp only[Option.some.injEq,Prod.mk.injEq]at h
       obtain⟨rfl,rfl⟩:=h
       obtain⟨k,h1,h2⟩:=len0
       simp only[R]at hr1
       rcases hr1 with⟨-,-,ad,cap,hr1⟩|⟨g,off,cap,xs,hr1,-⟩
       ·exact dV.mk hx (none_ ad cap k h1 h2 hr1) rfl (To.refl c) ok (by rw[R])
       ·exact dV.mk hx (none_ _ cap k h1 h2 hr1) rfl (To.refl c) ok (by rw[R])
      ·cases h
     ·cases h
    ·cases h
   ·cases h
 ·cases h
theorem RL.setE{ρ:List Nat}{own:Nat→Prop}{w:World}{key v:Value}{a0:A}(ha:R ρ own w a0 v):∀(es:List MapEntry) (cs:List A) (k:Nat) (e0:MapEntry),RL ρ own w cs (gE es)→es[k]?=some e0→e0.key=key→RL ρ own w (cs.set (2*k+1) a0) (gE (es.modify k fun e=>{ e with key:=key,val:=v }))
 |[],_,_,_,_,h,_=>by simp at h
 |e1::es,cs,k,e0,h,he,hk=>by
  rw[iF]at h
  cases cs with
  |nil=>rw[RL]at h;cases h
  |cons z cs =>
   cases cs with
   |nil =>
    have hl:=h.length
    simp at hl
   |cons z1 cs =>
    rw[RL]at h
    obtain⟨_,_,h0,h1,h⟩:=h
    injection h0 with h01 h02
    subst h01
    subst h02
    rw[RL]at h
    obtain⟨_,_,h0,h2,h⟩:=h
    injection h0 with h01 h02
    subst h01
    subst h02
    cases k with
    |zero =>
     simp only[List.getElem?_cons_zero,Option.some.injEq]at he
     subst he
     subst hk
     simp only[List.modify_zero_cons,iF,Nat.mul_zero,Nat.zero_add,List.set_cons_succ,List.set_cons_zero]
     exact RL.cons h1 (RL.cons ha h)
    |succ k =>
     simp only[List.getElem?_cons_succ]at he
     rw[show 2*(k+1)+1=(2*k+1)+1+1 by omega,List.set_cons_succ,List.set_cons_succ,List.modify_succ_cons,iF]
     exact RL.cons h1 (RL.cons h2 (RL.setE ha es cs k e0 h he hk))
theorem NO(hT:TOk P T)(ok:Ok T.gl c){t:TypeId}{r:Option Operand}(ho:o.op=.makeMap t r)(h:aR T e c.H (.makeMap t r)=some (x,H')):dV T P c a o x H':=by
 cases r with
 |some r=>simp[aR]at h
 |none =>
  simp only[aR]at h
  have hx:execOp a.eval o=(do pure (.value (← Instr.makeMap t none)):Sem Next):=by simp only[execOp,ho,Option.map_none]
  split at h
  ·split at h
   ·simp only[Option.some.injEq,Prod.mk.injEq]at h
    obtain⟨rfl,rfl⟩:=h
    obtain⟨c',h1,h2,h3,h4,h5,h6⟩:=aZg (w':=c.w.alloc (.map #[] 0)) (e:=t) (wh:=true) (cs:=[]) (es:=#[]) (n:=0) ok (.inl rfl) RL.nil ⟨rfl,by simp⟩
    refine dV.mk hx (y:=.map (some c.w.heap.size)) ?_ h1 h3 h4 (by rw[R];exact⟨_,h5,rfl,_,_,h6⟩)
    rw[h2]
    simp[Instr.makeMap]
   ·cases h
  ·cases h
theorem aD7(hT:TOk P T)(ok:Ok T.gl c)(he:cF c e a){t:TypeId}{p:Operand}(ho:o.op=.range t p)(h:aR T e c.H (.range t p)=some (x,H')):dV T P c a o x H':=by
 simp only[aR]at h
 have hx:execOp a.eval o=(do pure (.value (← Instr.range t (a.eval p))):Sem Next):=by simp only[execOp,ho]
 split at h
 ·rename_i ty s hty hp
  split at h
  ·rename_i hk
   simp only[Option.some.injEq,Prod.mk.injEq]at h
   obtain⟨rfl,rfl⟩:=h
   obtain⟨d,hd,hd1⟩:=(hT.facts hty).desc
   rw[hk]at hd1
   obtain rfl:=tJ hd1
   have hr:=he.opnd hp
   rw[R]at hr
   obtain⟨c',h1,h2,h3,h4,h5,h6⟩:=aOn (cs:=[.its s 0]) (o:=.stringIter s 0) ok fun _ _ _ _ h=>.inr (.inr (.inr ⟨s,0,h,rfl⟩))
   refine dV.mk hx (y:=.pointer (some ⟨c.w.heap.size,0,none⟩)) ?_ h1 h3 h4 (by rw[R];exact⟨_,h5,rfl,_,_,h6⟩)
   rw[hr,h2]
   exact run_range_string _ _ _ hd
  ·cases h
 ·cases h
theorem aIm(ok:Ok T.gl c)(he:cF c e a){p:Operand}{b:Bool}(ho:o.op=.next p b)(h:aR T e c.H (.next p b)=some (x,H')):dV T P c a o x H':=by
 cases b with
 |false=>simp[aR]at h
 |true =>
  simp only[aR,cond_true,T7]at h
  have hx:execOp a.eval o=(do pure (.value (← Instr.next (a.eval p) true o.type)):Sem Next):=by simp only[execOp,ho]
  split at h
  ·rename_i b hp
   split at h
   ·rename_i k hb
    split at h
    ·rename_i s pos hcs
     have hr:=he.opnd hp
     rw[R]at hr
     obtain⟨g,hg,hy,s',p',hit⟩:=hr
     have hst:c.w.heap[g]?=some (.stringIter s pos):=by
      rcases ok.blk b k.e k.cs k.whole g hb hg with⟨cur,xs,h1,-⟩|⟨es,n,h1,-⟩|⟨r,nt,ps,sl,ma,mb,rest,h1,-⟩|⟨s1,p1,h1,h2⟩
      ·rw[hit]at h1
       cases h1
      ·rw[hit]at h1
       cases h1
      ·rw[hit]at h1
       cases h1
      ·rw[hcs]at h2
       simp only[List.cons.injEq,A.its.injEq,and_true]at h2
       obtain⟨rfl,rfl⟩:=h2
       exact h1
     split at h
     ·rename_i u hu
      have hlt:pos<s.size:=by
       by_cases hlt:pos<s.size
       ·exact hlt
       ·rw[getElem?_neg s pos hlt]at hu
        cases hu
      have hu':s[pos]'hlt=u:=by
       rw[getElem?_pos s pos hlt]at hu
       exact Option.some.inj hu
      cases hasc:Nat.blt u.toNat 128 with
      |false=>simp[hasc]at h
      |true =>
       simp only[hasc,cond_true,Option.some.injEq,Prod.mk.injEq]at h
       obtain⟨rfl,rfl⟩:=h
       have ha:(s[pos]'hlt).toNat<128:=by
        rw[hu']
        exact Nat.le_of_ble_eq_true hasc
       obtain⟨c',h1,h2,h3,h4,-⟩:=aOw (cs:=[.its s (pos+1)]) (o':=.stringIter s (pos+1)) ok hb hg hst (by simp[iS]) rfl fun _ _ _ _ h=>.inr (.inr (.inr ⟨s,_,h,rfl⟩))
       refine dV.mk hx (y:=.tuple #[.bool true,.int .i64 pos,.int .i32 u.toNat]) ?_ h1 h3 h4 (by rw[R];exact⟨[.bool true,.int .i64 pos,.int .i32 u.toNat],rfl,RL.cons (by rw[R]) (RL.cons (by rw[R]) (RL.cons (by rw[R]) RL.nil))⟩)
       rw[hy,h2]
       simp only[Instr.next,getObj,setObj,Sem.run_bind,Sem.run,hst,Result.andThen,hlt,if_true,decode_ascii s pos hlt ha,hu']
       simp[goInt,World.putObj]
     ·rename_i hu
      simp only[Option.some.injEq,Prod.mk.injEq]at h
      obtain⟨rfl,rfl⟩:=h
      have hlt:¬ pos<s.size:=by
       intro hlt
       rw[getElem?_pos s pos hlt]at hu
       cases hu
      refine dV.mk hx (y:=.tuple #[.bool false]) ?_ rfl (To.refl c) ok (by rw[R];exact⟨[.bool false],rfl,RL.cons (by rw[R]) RL.nil⟩)
      rw[hy]
      simp[Instr.next,getObj,Sem.run,hst,hlt]
    ·cases h
   ·cases h
  ·cases h
theorem LR{kd:K}{key:Value}(hk:fL kd key=true)(w:World):(Instr.keyThatStays key key).run P w=.ok key w:=by
 have:Instr.sameBits 10000 key key=true:=by
  cases key<;>first
   |(cases kd<;>simp[fL]at hk;done)
   |(simp[Instr.sameBits];done)
   |(show(_==_)=true;exact beq_self_eq_true (α:=Array UInt8) _)
 simp[Instr.keyThatStays,this]
theorem Ok.mapAt{Gd:GD}{c:Cfg}(ok:Ok Gd c){b g:Nat}{k:Blk}(hb:c.H[b]?=some (some k))(hg:c.ρ[b]?=some g){es0:Array MapEntry}{n0:Nat}(hm:c.w.heap[g]?=some (.map es0 n0)) :
  ∃ es n,c.w.heap[g]?=some (.map es n)∧RL c.ρ c.own c.w k.cs (gE es.toList)∧BC es n:=by
 rcases ok.blk b k.e k.cs k.whole g hb hg with⟨cur,xs,h1,-⟩|⟨es',n',h1,h2⟩|⟨r',nt',ps',sl',a',b',rest',h1,-⟩|⟨s',p',h1,-⟩
 ·rw[hm]at h1
  cases h1
 ·exact⟨es',n',h1,h2⟩
 ·rw[hm]at h1
  cases h1
 ·rw[hm]at h1
  cases h1
theorem BC.push{es:Array MapEntry}{n:Nat}(h:BC es n){k v:Value}:BC (es.push { key:=k,val:=v,born:=n }) (n+1):=by
 obtain⟨rfl,h2⟩:=h
 refine⟨by simp,fun i e he=>?_⟩
 rw[Array.getElem?_push]at he
 split at he
 ·rename_i hi
  obtain rfl:=Option.some.inj he
  exact hi.symm
 ·exact h2 i e he
theorem BC.modify{es:Array MapEntry}{n:Nat}(h:BC es n){i:Nat}{f:MapEntry→MapEntry}(hf:∀ e,(f e).born=e.born):BC (es.modify i f) n:=by
 refine⟨by rw[h.1];simp,fun j e he=>?_⟩
 rw[Array.getElem?_modify]at he
 split at he
 ·rw[Option.map_eq_some_iff]at he
  obtain⟨e0,h0,rfl⟩:=he
  rw[hf]
  exact h.2 j e0 h0
 ·exact h.2 j e he
theorem tY(es:List MapEntry):(gE es).length=2*es.length:=by
 induction es with
 |nil=>rfl
 |cons e0 es ih=>rw[iF];simp[ih];omega
theorem C4:∀{a b:List Value},m7 a b=true→a=b
 |[],[],_=>rfl
 |.int k x::l,.int k' y::l',h=>by
  simp only[m7,Bool.and_eq_true,decide_eq_true_eq]at h
  rw[h.1,h.2.1,C4 h.2.2]
 |[],_::_,h=>by simp[m7]at h
 |a::_,[],h=>by cases a<;>simp[m7]at h
theorem wM(n:Nat):∀{a b:List Value},m7 a b=true→(a.zip a).all (fun p=>Instr.sameBits n p.1 p.2)=true
 |[],_,_=>rfl
 |.int k x::l,.int k' y::l',h=>by
  simp only[m7,Bool.and_eq_true,decide_eq_true_eq]at h
  simp only[List.zip_cons_cons,List.all_cons,wM n h.2.2,Bool.and_true]
  cases n<;>simp[Instr.sameBits]
 |a::_,[],h=>by cases a<;>simp[m7]at h
theorem aDb{ρ:List Nat}{own:Nat→Prop}{w:World}{v:Value}:∀{es:List MapEntry} {cs:List A} {i:Nat} {e0:MapEntry},RL ρ own w cs (gE es)→cs[2*i]?=some (.v v)→es[i]?=some e0→e0.key=v
 |[],cs,i,e0,_,_,h=>by simp at h
 |e1::es,[],i,e0,hr,h,_=>by simp at h
 |e1::es,[a],i,e0,hr,h,_=>by
  have hl:=hr.length
  rw[iF]at hl
  simp at hl
 |e1::es,a::b::cs,i,e0,hr,h,h'=>by
  rw[iF]at hr
  rw[RL]at hr
  obtain⟨_,_,h0,h1,hr⟩:=hr
  injection h0 with h01 h02
  subst h01
  subst h02
  rw[RL]at hr
  obtain⟨_,_,h0,h2,hr⟩:=hr
  injection h0 with h01 h02
  subst h01
  subst h02
  cases i with
  |zero =>
   simp only[Nat.mul_zero,List.getElem?_cons_zero,Option.some.injEq]at h h'
   subst h
   subst h'
   rw[R]at h1
   exact h1
  |succ i =>
   refine aDb (es:=es) (cs:=cs) (i:=i) hr ?_ (by simpa using h')
   rw[show 2*(i+1)=2*i+1+1 by omega]at h
   simpa using h
theorem aEA{ρ:List Nat}{own:Nat→Prop}{w:World}{es:List MapEntry}{cs:List A}{i:Nat}{e0:MapEntry}{key:Value}(h:pJ key cs[2*i]?=true)(hr:RL ρ own w cs (gE es))(he:es[i]?=some e0):e0.key=key∧∀ w,(Instr.keyThatStays key key).run P w=.ok key w:=by
 cases hc:cs[2*i]? with
 |none=>rw[hc]at h;cases h
 |some a =>
  rw[hc]at h
  cases a with
  |v x =>
   cases x with
   |agg ys =>
    cases key with
    |agg xs =>
     simp only[pJ]at h
     have e:=C4 h
     have e':ys=xs:=Array.toList_inj.1 e
     subst e'
     refine⟨aDb hr hc he,fun w=>?_⟩
     have:Instr.sameBits (9999+1) (.agg ys) (.agg ys)=true:=by
      simp only[Instr.sameBits,beq_self_eq_true,Bool.true_and]
      exact wM 9999 h
     simp[Instr.keyThatStays,this]
    |_=>simp[pJ]at h
   |_=>simp[pJ]at h
  |_=>simp[pJ]at h
theorem X3(hT:TOk P T)(ok:Ok T.gl c)(he:cF c e a){t:TypeId}{m k:Operand}(ho:o.op=.mapEntry t m k)(h:kB T e c.H t m k=some (x,H')):dV T P c a o x H':=by
 have hx:execOp a.eval o=(do pure (.value (← Instr.mapEntry t (a.eval m) (a.eval k))):Sem Next):=by simp only[execOp,ho]
 unfold kB at h
 split at h
 ·rename_i ty b key hty hm hk
  split at h
  ·rename_i kt et blk hkd hb
   split at h
   ·rename_i tk z htk hz
    obtain⟨d,hd,hd1⟩:=(hT.facts hty).desc
    rw[hkd]at hd1
    obtain rfl:=DA hd1
    obtain⟨dk,hdk,hdk1⟩:=(hT.facts htk).desc
    obtain⟨kv,hk1,hk2⟩:=Option.bind_eq_some_iff.1 hk
    have hkr:=QX hk2 (he.opnd hk1)
    obtain⟨te,hte,hz1⟩:=Option.bind_eq_some_iff.1 hz
    have hmr:=he.opnd hm
    rw[R]at hmr
    obtain⟨g,hg,hmy,es0,n0,hm0⟩:=hmr
    obtain⟨es,n,hes,hrl,hbn⟩:=ok.mapAt hb hg hm0
    rw[hmy,hkr]at hx
    have hnew:∀(zv:Value),(zeroValue et).run P c.w=.ok zv c.w→R c.ρ c.own c.w z zv→(∀ b w,(Instr.checkKey b 10000 kt key).run P w=.ok () w)→(∀ w',(Instr.findKey kt key es.toList).run P w'=.ok none w') →
      dV T P c a o (.tup [z,.v (.int .i64 (blk.cs.length/2:Nat))]) (c.H.set b (some ⟨blk.e,blk.cs++[.v key,z],blk.whole⟩)):=by
     intro zv hzv hzr hchk hf
     have hrl':RL c.ρ c.own c.w (blk.cs++[.v key,z]) (gE (es.push { key:=key,val:=zv,born:=n }).toList):=by
      simp only[Array.toList_push,gE,List.flatMap_append]
      exact RL.append hrl (RL.cons (by rw[R]) (RL.cons hzr RL.nil))
     obtain⟨c',k1,k2,k3,k4,-⟩:=zA (n':=n+1) ok hb hg hes hrl' hbn.push
     have hn2:n=blk.cs.length/2:=by
      have:=hrl.length
      rw[tY]at this
      rw[hbn.1]
      simp at this
      omega
     refine dV.mk hx (y:=.tuple #[zv,goInt n]) ?_ k1 k3 k4 ?_
     ·rw[k2]
      simp only[Instr.mapEntry,Sem.run_bind,run_underlying hd,Result.andThen_ok,MapKept.run_getObj_map hes,hchk,hf,hzv,MapKept.run_setObj_map _ hes,Sem.run_pure]
     ·rw[R]
      refine⟨[zv,goInt n],rfl,RL.cons (hzr.to k3 ok) (RL.cons ?_ RL.nil)⟩
      rw[R,hn2]
      rfl
    split at h
    ·rename_i hf
     simp only[Option.some.injEq,Prod.mk.injEq]at h
     obtain⟨rfl,rfl⟩:=h
     obtain⟨zv,hzv,hzr⟩:=MB (hT.facts hte) hz1 c.w (ρ:=c.ρ) (own:=c.own) (w0:=c.w)
     obtain⟨hko,⟨-,h2⟩|⟨k1,a1,e1,h1,-⟩⟩:=sM hT htk hf hrl
     ·exact hnew zv hzv hzr (fun b w=>mN hT htk hko b w) h2
     ·cases h1
    ·rename_i i z1 hf
     cases hka:(fL tk.k key||pJ key blk.cs[2*i]?)with
     |false=>rw[hka]at h;cases h
     |true =>
     rw[hka]at h
     simp only[cond_true,Option.some.injEq,Prod.mk.injEq]at h
     obtain⟨rfl,rfl⟩:=h
     obtain⟨hko,⟨h1,-⟩|⟨k1,a1,e1,h1,h2,h3,h4,h7⟩⟩:=sM hT htk hf hrl
     ·cases h1
     ·simp only[Option.some.injEq,Prod.mk.injEq]at h1
      obtain⟨rfl,rfl⟩:=h1
      obtain⟨h5,h6⟩:e1.key=key∧∀ w,(Instr.keyThatStays key key).run P w=.ok key w:=by
       rw[Bool.or_eq_true]at hka
       rcases hka with hka|hka
       ·exact⟨h7 hka,LR hka⟩
       ·exact aEA (P:=P) hka hrl h3
      have h3':es[i]?=some e1:=by simpa using h3
      have hat:((es[i]?).map (·.key)).getD key=key:=by simp[h3',h5]
      have hbo:((es[i]?).map (fun x=>(x.born:Int))).getD 0=i:=by simp[h3',hbn.2 i e1 h3']
      have hsame:es.modify i (fun e=>{ e with key:=key })=es:=by
       apply Array.ext_getElem?
       intro j
       rw[Array.getElem?_modify]
       split
       ·rename_i hij
        subst hij
        rw[h3',Option.map_some,← h5]
       ·rfl
      have hrl':RL c.ρ c.own c.w blk.cs (gE (es.modify i fun e=>{ e with key:=key }).toList):=by rw[hsame];exact hrl
      obtain⟨c',k1,k2,k3,k4,-⟩:=zA (n':=n) ok hb hg hes hrl' (by rw[hsame];exact hbn)
      refine dV.mk hx (y:=.tuple #[e1.val,goInt i]) ?_ k1 k3 k4 ?_
      ·rw[k2]
       simp only[Instr.mapEntry,Sem.run_bind,run_underlying hd,Result.andThen_ok,MapKept.run_getObj_map hes,mN hT htk hko,h2,hat,h6,MapKept.run_setObj_map _ hes,Sem.run_pure,hbo]
      ·rw[R]
       refine⟨[e1.val,goInt i],rfl,RL.cons (h4.to k3 ok) (RL.cons ?_ RL.nil)⟩
       rw[R]
       rfl
    ·cases h
   ·cases h
  ·cases h
 ·cases h
theorem YO(ok:Ok T.gl c)(he:cF c e a){t:TypeId}{m s v:Operand}(ho:o.op=.entryStore t m s v)(h:jP e c.H m s v=some (x,H')):dV T P c a o x H':=by
 have hx:execOp a.eval o=(do Instr.entryStore t (a.eval m) (a.eval s) (a.eval v);pure .skip:Sem Next):=by simp only[execOp,ho]
 unfold jP at h
 split at h
 ·rename_i b k i a0 hm hs hv
  split at h
  ·rename_i blk hb
   split at h
   ·rename_i hi
    simp only[Option.some.injEq,Prod.mk.injEq]at h
    obtain⟨rfl,rfl⟩:=h
    have hmr:=he.opnd hm
    rw[R]at hmr
    obtain⟨g,hg,hmy,es0,n0,hm0⟩:=hmr
    obtain⟨es,n,hes,hrl,hbn⟩:=ok.mapAt hb hg hm0
    have hsr:=he.opnd hs
    rw[R]at hsr
    have har:=he.opnd hv
    have hl:=hrl.length
    rw[tY]at hl
    have hlt:i.toNat<es.size:=by simp at hl;omega
    have hei:es[i.toNat]?=some es[i.toNat]:=Array.getElem?_eq_getElem hlt
    have hfi:es.findIdx? (fun e=>(e.born:Int)==i)=some i.toNat:=by
     rw[Array.findIdx?_eq_some_iff_getElem]
     refine⟨hlt,?_,fun j hj=>?_⟩
     ·rw[hbn.2 i.toNat _ hei]
      simp
      omega
     ·have:=hbn.2 j _ (Array.getElem?_eq_getElem (by omega:j<es.size))
      rw[this]
      simp
      omega
    have hrl':RL c.ρ c.own c.w (blk.cs.set (2*i.toNat+1) a0) (gE (es.modify i.toNat fun e=>{ e with val:=a.eval v }).toList):=by
     have h1:=RL.setE (key:=es[i.toNat].key) har es.toList blk.cs i.toNat es[i.toNat] hrl (by simp[hlt]) rfl
     have h2:es.modify i.toNat (fun e=>{ e with val:=a.eval v })=es.modify i.toNat (fun e=>{ e with key:=es[i.toNat].key,val:=a.eval v }):=by
      apply Array.ext_getElem?
      intro j
      rw[Array.getElem?_modify,Array.getElem?_modify]
      split
      ·rename_i hij
       subst hij
       rw[hei]
       rfl
      ·rfl
     rw[h2,Array.toList_modify]
     exact h1
    obtain⟨c',k1,k2,k3,k4,-⟩:=zA (n':=n) ok hb hg hes hrl' (hbn.modify (fun _=>rfl))
    refine⟨.skip,undef,c',?_,.inr ⟨rfl,rfl⟩,k1,k3,k4,by rw[R]⟩
    rw[hx,hmy,hsr,k2]
    simp only[Instr.entryStore,Sem.run_bind,Result.andThen_ok,MapKept.run_getObj_map hes,asInt,asIntOf,hfi,MapKept.run_setObj_map _ hes,Sem.run_pure]
   ·cases h
  ·cases h
 ·cases h
theorem B7(hT:TOk P T)(ok:Ok T.gl c)(he:cF c e a){t:TypeId}{m k v:Operand}(ho:execOp a.eval o=(do Instr.mapUpdate t (a.eval m) (a.eval k) (a.eval v);pure .skip:Sem Next))(h:gK T e c.H t m k v=some (x,H')):dV T P c a o x H':=by
 unfold gK at h
 split at h
 ·rename_i ty b key a0 hty hm hk hv
  split at h
  ·rename_i kt et blk hkd hb
   split at h
   ·rename_i tk htk
    split at h
    ·rename_i hkey
     obtain⟨d,hd,hd1⟩:=(hT.facts hty).desc
     rw[hkd]at hd1
     obtain rfl:=DA hd1
     obtain⟨dk,hdk,hdk1⟩:=(hT.facts htk).desc
     have hkr:=he.opnd hk
     rw[R]at hkr
     have hmr:=he.opnd hm
     rw[R]at hmr
     obtain⟨g,hg,hmy,es0,n0,hm0⟩:=hmr
     obtain⟨es,n,hes,hrl,hbn⟩:=ok.mapAt hb hg hm0
     have hchk:∀ b w,(Instr.checkKey b 10000 kt key).run P w=.ok () w:=fun b w=>qH hdk hdk1 hkey b w 9999
     have har:=he.opnd hv
     split at h
     ·rename_i hf
      simp only[Option.some.injEq,Prod.mk.injEq]at h
      obtain⟨rfl,rfl⟩:=h
      rcases zW hdk1 hkey es.toList blk.cs 0 _ hf hrl with⟨-,h2⟩|⟨k1,a1,e1,h1,-⟩
      ·have hrl':RL c.ρ c.own c.w (blk.cs++[.v key,a0]) (gE (es.push { key:=key,val:=a.eval v,born:=n }).toList):=by
        simp only[Array.toList_push,gE,List.flatMap_append]
        exact RL.append hrl (RL.cons (by rw[R]) (RL.cons har RL.nil))
       obtain⟨c',k1,k2,k3,k4,-⟩:=zA (n':=n+1) ok hb hg hes hrl' hbn.push
       refine⟨.skip,undef,c',?_,.inr ⟨rfl,rfl⟩,k1,k3,k4,by rw[R]⟩
       rw[ho,hmy,hkr,k2]
       simp only[Instr.mapUpdate,Sem.run_bind,run_underlying hd,Result.andThen_ok,MapKept.run_getObj_map hes,hchk,mK hdk h2,MapKept.run_setObj_map _ hes,Sem.run_pure]
      ·cases h1
     ·rename_i i z hf
      simp only[Option.some.injEq,Prod.mk.injEq]at h
      obtain⟨rfl,rfl⟩:=h
      rcases zW hdk1 hkey es.toList blk.cs 0 _ hf hrl with⟨h1,-⟩|⟨k1,a1,e1,h1,h2,h3,h4,h5⟩
      ·cases h1
      ·simp only[Option.some.injEq,Prod.mk.injEq,Nat.zero_add]at h1
       obtain⟨rfl,rfl⟩:=h1
       simp only[Nat.zero_add]at h2
       have hrl':RL c.ρ c.own c.w (blk.cs.set (2*i+1) a0) (gE (es.modify i fun e=>{ e with key:=key,val:=a.eval v }).toList):=by
        rw[Array.toList_modify]
        exact RL.setE har es.toList blk.cs i e1 hrl h3 h5
       obtain⟨c',k1,k2,k3,k4,-⟩:=zA (n':=n) ok hb hg hes hrl' (hbn.modify (fun _=>rfl))
       have hat:((es[i]?).map (·.key)).getD key=key:=by
        have:es[i]?=some e1:=by simpa using h3
        simp[this,h5]
       refine⟨.skip,undef,c',?_,.inr ⟨rfl,rfl⟩,k1,k3,k4,by rw[R]⟩
       rw[ho,hmy,hkr,k2]
       simp only[Instr.mapUpdate,Sem.run_bind,run_underlying hd,Result.andThen_ok,MapKept.run_getObj_map hes,hchk,mK hdk h2,hat,LR hkey,MapKept.run_setObj_map _ hes,Sem.run_pure]
     ·cases h
    ·cases h
   ·cases h
  ·cases h
 ·cases h
theorem aI9(hT:TOk P T)(ok:Ok T.gl c)(he:cF c e a)(h:aR T e c.H o.op=some (x,H')):dV T P c a o x H':=by
 cases ho:o.op<;>rw[ho]at h
 case alloc=>exact aEp hT ok ho h
 case box=>exact a1e ok he ho h
 case buildSlice=>exact A3 hT ok he ho h
 case store=>exact aEq hT ok he ho h
 case makeSlice=>exact DM hT ok he ho h
 case makeMap=>exact NO hT ok ho h
 case range=>exact aD7 hT ok he ho h
 case next=>exact aIm ok he ho h
 case mapEntry=>exact X3 hT ok he ho h
 case entryStore=>exact YO ok he ho h
 case insert t m k v=>exact B7 (t:=t) (m:=m) (k:=k) (v:=v) hT ok he (by simp only[execOp,ho]) (by simpa only[aR]using h)
 case mapUpdate t m k v=>exact B7 (t:=t) (m:=m) (k:=k) (v:=v) hT ok he (by simp only[execOp,ho]) (by simpa only[aR]using h)
 case call cl =>
  cases hc:cl.callee with
  |builtin b =>
   cases b
   case append=>exact YY hT ok he ho hc h
   case copy=>exact aK4 hT ok he ho hc h
   case unsafeString=>exact xI hT ok he ho hc h
   all_goals(simp[aR,hc]at h;done)
  |value f=>simp[aR,hc]at h
  |invoke r m=>simp[aR,hc]at h
 all_goals(simp[aR]at h;done)
end
theorem CY{c:Cfg}(ok:Ok T.gl c){own:Nat→Prop}(ho:∀ g,own g→c.own g∧¬ img c.ρ c.H g):∀ n:Nat,
  (∀(a r:A) (y:Value),freeze c.H n a=some r→R c.ρ c.own c.w a y→R [] own c.w r y) ∧
  (∀(cs rs:List A) (ys:List Value),bQ (freeze c.H n) cs=some rs→RL c.ρ c.own c.w cs ys→RL [] own c.w rs ys):=by
 intro n
 have keep:∀{z:A} {y:Value},R [] c.own c.w z y→R [] own c.w z y:=fun h=>R.keep ⟨List.prefix_rfl,Nat.le_refl _,fun g _ hn=>⟨fun h=>hn (ho g h).1,rfl⟩,fun _ cur _ fz h=>⟨cur,fz,h,rfl⟩,fun _ es n h=>⟨es,n,h⟩,fun _ o h _=>⟨o,h,rfl⟩⟩ _ _ h
 have keepL:∀{z:List A} {y:List Value},RL [] c.own c.w z y→RL [] own c.w z y:=fun h=>RL.keep ⟨List.prefix_rfl,Nat.le_refl _,fun g _ hn=>⟨fun h=>hn (ho g h).1,rfl⟩,fun _ cur _ fz h=>⟨cur,fz,h,rfl⟩,fun _ es n h=>⟨es,n,h⟩,fun _ o h _=>⟨o,h,rfl⟩⟩ _ _ h
 induction n with
 |zero =>
  refine⟨fun a r y h=>by simp[freeze]at h,fun cs=>?_⟩
  induction cs with
  |nil =>
   intro rs ys h hr
   simp[bQ]at h
   subst h
   rw[RL]at hr ⊢
   exact hr
  |cons c0 cs ih =>
   intro rs ys h hr
   unfold bQ at h
   simp[freeze]at h
 |succ n ih =>
  have hA:∀(a r:A) (y:Value),freeze c.H (n+1) a=some r→R c.ρ c.own c.w a y→R [] own c.w r y:=by
   intro a r y h hr
   cases a with
   |v x =>
    simp only[freeze,Option.some.injEq]at h
    subst h
    rw[R]at hr ⊢
    exact hr
   |agg cs =>
    simp only[freeze]at h
    cases hf:bQ (freeze c.H n) cs with
    |none=>simp[hf]at h
    |some rs =>
     simp only[hf,Option.map_some,Option.some.injEq]at h
     subst h
     rw[R]at hr ⊢
     obtain⟨xs,h1,h2⟩:=hr
     exact⟨xs,h1,ih.2 cs rs xs hf h2⟩
   |tup cs =>
    simp only[freeze]at h
    cases hf:bQ (freeze c.H n) cs with
    |none=>simp[hf]at h
    |some rs =>
     simp only[hf,Option.map_some,Option.some.injEq]at h
     subst h
     rw[R]at hr ⊢
     obtain⟨xs,h1,h2⟩:=hr
     exact⟨xs,h1,ih.2 cs rs xs hf h2⟩
   |clo f fs caps =>
    simp only[freeze]at h
    cases hf:bQ (freeze c.H n) fs with
    |none=>simp[hf]at h
    |some rs =>
     cases hf':bQ (freeze c.H n) caps with
     |none=>simp[hf,hf']at h
     |some rs' =>
      simp only[hf,hf',Option.some.injEq]at h
      subst h
      rw[R]at hr ⊢
      obtain⟨xs,ys,h1,h2,h3⟩:=hr
      exact⟨xs,ys,h1,ih.2 fs rs xs hf h2,ih.2 caps rs' ys hf' h3⟩
   |sl len cs =>
    simp only[freeze,Option.some.injEq]at h
    subst h
    rw[R]at hr ⊢
    rcases hr with h|⟨g,off,cap,xs,h1,h0,h2,h3,h4,h5⟩
    ·exact .inl h
    ·exact .inr ⟨g,off,cap,xs,h1,h0,h2,fun h=>h3 (ho g h).1,keepL h4,h5⟩
   |fp cs =>
    simp only[freeze,Option.some.injEq]at h
    subst h
    rw[R]at hr ⊢
    obtain⟨g,off,xs,h1,h2,h3,h4,h5⟩:=hr
    exact⟨g,off,xs,h1,h2,fun h=>h3 (ho g h).1,keepL h4,h5⟩
   |mf cs =>
    simp only[freeze,Option.some.injEq]at h
    subst h
    rw[R]at hr ⊢
    rcases hr with hr|⟨g,es,m,h1,h2,h3,h4,h5⟩
    ·exact .inl hr
    ·exact .inr ⟨g,es,m,h1,h2,fun h=>h3 (ho g h).1,h4,keepL h5⟩
   |mp b =>
    simp only[freeze]at h
    split at h
    ·rename_i k hb
     cases hf:bQ (freeze c.H n) k.cs with
     |none=>simp[hf]at h
     |some rs =>
      simp only[hf,Option.map_some,Option.some.injEq]at h
      subst h
      rw[R]at hr
      rw[R]
      obtain⟨g,hg,rfl,es,m,hmap⟩:=hr
      rcases ok.blk b k.e k.cs k.whole g hb hg with⟨cur,xs,h1,-⟩|⟨es',m',h1,h2⟩|⟨r',nt',ps',sl',a',b',rest',h1,-⟩|⟨s',p',h1,-⟩
      ·rw[hmap]at h1
       cases h1
      rotate_left
      ·rw[hmap]at h1
       cases h1
      ·rw[hmap]at h1
       cases h1
      ·exact .inr ⟨g,es',m',rfl,ok.lt g (ok.img g ⟨b,k,hb,hg⟩),fun h=>(ho g h).2 ⟨b,k,hb,hg⟩,h1,ih.2 _ rs _ hf h2.1⟩
    ·cases h
   |yl b=>simp[freeze]at h
   |lrec nt ps sl a b=>simp[freeze]at h
   |it b=>simp[freeze]at h
   |its s p=>simp[freeze]at h
   |ptr b off =>
    simp only[freeze]at h
    split at h
    ·rename_i k hb
     cases hf:bQ (freeze c.H n) (k.cs.drop off)with
     |none=>simp[hf]at h
     |some rs =>
      simp only[hf,Option.map_some,Option.some.injEq]at h
      subst h
      rw[R]at hr
      rw[R]
      obtain⟨g,hg,rfl,hsh⟩:=hr
      obtain⟨cur,xs,hcur,hxs,hlie,-⟩:=ok.lies hb hg hsh
      exact⟨g,off,xs.drop off,rfl,ok.lt g (ok.img g ⟨b,k,hb,hg⟩),fun h=>(ho g h).2 ⟨b,k,hb,hg⟩,ih.2 _ rs _ hf (hxs.drop off),by simpa using hlie.drop off⟩
    ·cases h
   |ref b off len sz =>
    simp only[freeze]at h
    split at h
    ·rename_i k hb
     split at h
     ·cases hf:bQ (freeze c.H n) ((k.cs.drop off).take (len*sz))with
      |none=>simp[hf]at h
      |some rs =>
       simp only[hf,Option.map_some,Option.some.injEq]at h
       subst h
       rw[R]at hr
       rw[R]
       obtain⟨g,cap,cur0,e0,fz0,hg,rfl,hn,-,hcl,-⟩:=hr
       obtain⟨cur,xs,hcur,hxs,hlie,-⟩:=ok.lies hb hg ⟨cur0,e0,fz0,hcl⟩
       refine .inr ⟨g,off,cap,(xs.drop off).take (len*sz),rfl,hn,ok.lt g (ok.img g ⟨b,k,hb,hg⟩),fun h=>(ho g h).2 ⟨b,k,hb,hg⟩,ih.2 _ rs _ hf ((hxs.drop off).take _),?_⟩
       have:=(hlie.drop off).take (len*sz)
       simpa using this
     ·cases h
    ·cases h
  refine⟨hA,fun cs=>?_⟩
  induction cs with
  |nil =>
   intro rs ys h hr
   simp[bQ]at h
   subst h
   rw[RL]at hr ⊢
   exact hr
  |cons c0 cs ihc =>
   intro rs ys h hr
   unfold bQ at h
   cases h1:freeze c.H (n+1) c0 with
   |none=>simp[h1]at h
   |some r1 =>
    cases h2:bQ (freeze c.H (n+1)) cs with
    |none=>simp[h1,h2]at h
    |some r2 =>
     simp only[h1,h2,Option.some.injEq]at h
     subst h
     rw[RL]at hr
     obtain⟨x,xs,rfl,h3,h4⟩:=hr
     exact RL.cons (hA c0 r1 x h1 h3) (ihc r2 xs h2 h4)
mutual
theorem aDT{ρ:List Nat}{own:Nat→Prop}{w:World}:∀(a:A) (y:Value),R ρ own w a y→R ρ own w (nrm a) y
 |.v x,y,h=>by
  unfold nrm
  split
  ·rw[R]at h
   subst h
   rw[R]
   exact .inl ⟨rfl,rfl,_,_,rfl⟩
  ·exact h
 |.agg l,y,h=>by
  rw[nrm,R]
  rw[R]at h
  obtain⟨xs,h1,h2⟩:=h
  exact⟨xs,h1,mO l xs h2⟩
 |.tup l,y,h=>by
  rw[nrm,R]
  rw[R]at h
  obtain⟨xs,h1,h2⟩:=h
  exact⟨xs,h1,mO l xs h2⟩
 |.sl n l,y,h=>by
  rw[nrm,R]
  rw[R]at h
  rcases h with⟨h1,h2,h3⟩|⟨g,off,cap,xs,h1,h0,h2,h3,h4,h5⟩
  ·exact .inl ⟨h1,by rw[h2];rfl,h3⟩
  ·exact .inr ⟨g,off,cap,xs,h1,h0,h2,h3,mO l xs h4,h5⟩
 |.fp l,y,h=>by
  rw[nrm,R]
  rw[R]at h
  obtain⟨g,off,xs,h1,h2,h3,h4,h5⟩:=h
  exact⟨g,off,xs,h1,h2,h3,mO l xs h4,h5⟩
 |.mf l,y,h=>by
  rw[nrm,R]
  rw[R]at h
  rcases h with⟨h1,h2⟩|⟨g,es,n,h1,h2,h3,h4,h5⟩
  ·exact .inl ⟨by rw[h1];rfl,h2⟩
  ·exact .inr ⟨g,es,n,h1,h2,h3,h4,mO l _ h5⟩
 |.clo f l r,y,h=>by
  rw[nrm,R]
  rw[R]at h
  obtain⟨xs,ys,h1,h2,h3⟩:=h
  exact⟨xs,ys,h1,mO l xs h2,mO r ys h3⟩
 |.ptr b o,y,h=>by rwa [nrm]
 |.ref b o n z,y,h=>by rwa [nrm]
 |.mp b,y,h=>by rwa [nrm]
 |.yl b,y,h=>by rwa [nrm]
 |.lrec nt ps sl a b,y,h=>by rwa [nrm]
 |.it b,y,h=>by rwa [nrm]
 |.its s p,y,h=>by rwa [nrm]
theorem mO{ρ:List Nat}{own:Nat→Prop}{w:World}:∀(l:List A) (ys:List Value),RL ρ own w l ys→RL ρ own w (fA l) ys
 |[],ys,h=>by rwa [fA]
 |a::l,ys,h=>by
  rw[fA]
  rw[RL]at h
  obtain⟨x,xs,rfl,h1,h2⟩:=h
  exact RL.cons (aDT a x h1) (mO l xs h2)
end
theorem aD3{c:Cfg}(ok:Ok T.gl c){own:Nat→Prop}(ho:∀ g,own g→c.own g∧¬ img c.ρ c.H g){md:MQ}{a r:A}{y:Value}(h:nP md c.H a=some r)(hr:R c.ρ c.own c.w a y):R [] own c.w r y:=by
 have key:∀ r,freeze c.H 20 a=some r→R [] own c.w r y:=fun r h=>(CY ok ho 20).1 a r y h hr
 cases md with
 |shut=>exact key r h
 |pass=>exact key r h
 |trim=>exact key r h
 |norm =>
  simp only[nP]at h
  obtain⟨r0,h1,rfl⟩:=Option.map_eq_some_iff.1 h
  exact aDT r0 y (key r0 h1)
end Go.Proofs.YtpdphobnchajbaaGreatDoor.Ev
namespace Go.Proofs.YtpdphobnchajbaaGreatDoor.Ev
open Go Go.RowKit
variable{P:Program}{T:Tb}
def FB(op:Op):List Nat:=op.operands.toList.filterMap fun|.tmp t=>some t|_=>none
def gV(l:List Operand)(e e':Env):Prop:=∀ x∈l,opnd e x=opnd e' x
theorem gV.opnds{e e':Env}:∀{l:List Operand},gV l e e'→opnds e l=opnds e' l
 |[],_=>rfl
 |x::l,h=>by
  unfold Ev.opnds
  rw[h x (.head _),gV.opnds (l:=l) (fun y hy=>h y (.tail _ hy))]
theorem gV.parts{e e':Env}:∀{l:List (Nat×Operand)},gV (l.map (·.2)) e e'→lI e l=lI e' l
 |[],_=>rfl
 |(i,x)::l,h=>by
  unfold lI
  rw[h x (by simp),gV.parts (l:=l) (fun y hy=>h y (by simp only[List.map_cons];exact .tail _ hy))]
theorem gV.opt{e e':Env}{o:Option Operand}(h:gV o.toList e e'):kF e o=kF e' o:=by
 cases o with
 |none=>rfl
 |some x =>
  simp only[kF]
  rw[h x (by simp)]
theorem kX{e e':Env}{H:aG}{op:Op}(h:gV op.operands.toList e e'):aN T e H op=aN T e' H op:=by
 cases op with
 |move x=>exact h x (by simp[Op.operands])
 |assign x=>exact h x (by simp[Op.operands])
 |pick c a b=>simp only[aN];rw[h c (by simp[Op.operands]),h a (by simp[Op.operands]),h b (by simp[Op.operands])]
 |build t ps =>
  simp only[aN]
  rw[gV.parts (l:=ps.toList) (by simpa[Op.operands]using h)]
 |load t x=>simp only[aN];rw[h x (by simp[Op.operands])]
 |nilCheck x=>simp only[aN];rw[h x (by simp[Op.operands])]
 |binOp b t x y t'=>simp only[aN];rw[h x (by simp[Op.operands]),h y (by simp[Op.operands])]
 |unOp b t x=>simp only[aN];rw[h x (by simp[Op.operands])]
 |convert t t' x=>simp only[aN];rw[h x (by simp[Op.operands])]
 |fieldAddr t x i=>simp only[aN];rw[h x (by simp[Op.operands])]
 |field t x i=>simp only[aN];rw[h x (by simp[Op.operands])]
 |indexAddr t x y=>simp only[aN];rw[h x (by simp[Op.operands]),h y (by simp[Op.operands])]
 |index t x y=>simp only[aN];rw[h x (by simp[Op.operands]),h y (by simp[Op.operands])]
 |slice t x lo hi mx =>
  simp only[aN]
  have h1:kF e lo=kF e' lo:=gV.opt fun y hy=>h y (by simp[Op.operands];simp at hy;simp[hy])
  have h2:kF e hi=kF e' hi:=gV.opt fun y hy=>h y (by simp[Op.operands];simp at hy;simp[hy])
  rw[h x (by simp[Op.operands]),h1,h2]
 |extract x i=>simp only[aN];rw[h x (by simp[Op.operands])]
 |lookup t x y b=>simp only[aN];rw[h x (by simp[Op.operands]),h y (by simp[Op.operands])]
 |makeFunc f a b =>
  simp only[aN]
  rw[gV.opnds (l:=a.toList) (fun y hy=>h y (by simp[Op.operands];simp at hy;simp[hy])),gV.opnds (l:=b.toList) (fun y hy=>h y (by simp[Op.operands];simp at hy;simp[hy]))]
 |call cl =>
  simp only[aN]
  rw[gV.opnds (l:=cl.args.toList) (fun y hy=>h y (by simp[Op.operands,Call.operands];simp at hy;simp[hy]))]
 |_=>rfl
theorem lG{e e':Env}{op:Op}(h:gV op.operands.toList e e'):calls e op=calls e' op:=by
 cases op with
 |call cl =>
  cases hc:cl.callee with
  |value f =>
   simp only[calls,hc]
   rw[gV.opnds (l:=cl.args.toList) (fun y hy=>h y (by simp[Op.operands,Call.operands];simp at hy;simp[hy])),h f (by simp[Op.operands,Call.operands,hc])]
  |_=>simp[calls,hc]
 |_=>rfl
theorem uR{e e':Env}{t:TypeId}{n:Nat}{ps:Array (Nat×Operand)}(h:gV (Op.buildSlice t n ps).operands.toList e e'):iK T e t n ps=iK T e' t n ps:=by
 unfold iK
 rw[gV.parts (l:=ps.toList) (by simpa[Op.operands]using h)]
theorem iC(e:Env):∀(l:List Nat) (t:Nat),cI (dU e l) t=if t∈l then cI e t else none
 |[],t=>by simp[dU,cI]
 |s::l,t=>by
  have ih:=iC e l t
  unfold dU
  cases hs:cI e s with
  |none =>
   simp only
   rw[ih]
   by_cases hts:t=s
   ·subst hts
    simp[hs]
   ·simp[hts]
  |some x =>
   simp only[cI]
   by_cases hts:t=s
   ·subst hts
    simp[hs]
   ·have:Nat.beq s t=false:=by
     cases hb:Nat.beq s t with
     |false=>rfl
     |true=>exact absurd (Nat.eq_of_beq_eq_true hb).symm hts
    simp[this,ih,hts]
theorem zG(e:Env)(op:Op):gV op.operands.toList e (dU e (FB op)):=by
 intro x hx
 cases x with
 |tmp t =>
  simp only[opnd]
  rw[iC,if_pos]
  unfold FB
  exact List.mem_filterMap.2 ⟨_,hx,rfl⟩
 |_=>rfl
abbrev Grow(w w':World):Prop:=Below w.heap.size w w'
theorem rR{ρ:List Nat}{own:Nat→Prop}{w w':World}(h:Grow w w'):jN ρ own w ρ own w' :=
 ⟨List.prefix_rfl,Below.size h,fun g hg ho=>⟨ho,h.block g hg⟩,fun g cur e fz hc=>⟨cur,fz,(h.block g (Array.getElem?_eq_some_iff.1 hc).1).trans hc,rfl⟩,fun g es n hc=>⟨es,n,(h.block g (Array.getElem?_eq_some_iff.1 hc).1).trans hc⟩,fun g o hc _=>⟨o,(h.block g (Array.getElem?_eq_some_iff.1 hc).1).trans hc,rfl⟩⟩
theorem Ok.grow{c:Cfg}(ok:Ok T.gl c){w':World}(h:Grow c.w w'):To c ⟨c.ρ,c.own,c.H,w'⟩∧Ok T.gl ⟨c.ρ,c.own,c.H,w'⟩:=by
 have hto:To c ⟨c.ρ,c.own,c.H,w'⟩ :=
  ⟨List.prefix_rfl,Below.size h,h.os,h.tape,h.output,fun _ _ h=>h,fun g hg _=>h.block g hg,fun g cur e fz hc=>⟨cur,fz,(h.block g (Array.getElem?_eq_some_iff.1 hc).1).trans hc,rfl⟩,fun g es n hc=>⟨es,n,(h.block g (Array.getElem?_eq_some_iff.1 hc).1).trans hc⟩,fun g o hc _=>⟨o,(h.block g (Array.getElem?_eq_some_iff.1 hc).1).trans hc,rfl⟩,fun _ _=>⟨id,.inl⟩⟩
 refine⟨hto,⟨ok.len,fun g hg=>Nat.lt_of_lt_of_le (ok.lt g hg) (Below.size h),ok.img,fun b e cs wh g hb hg=>?_,ok.inj,hto.glob ok⟩⟩
 exact(ok.blk b e cs wh g hb hg).keep (hto.keeps ok) (h.block g (ok.lt_blk hb hg))
theorem To.grows{c c':Cfg}(h:To c c')(hn:∀ g,¬ Ev.img c.ρ c.H g):Grow c.w c'.w:={ size:=h.size,block:=fun k hk=>h.same k hk (hn k),os:=h.os,tape:=h.tape,output:=h.output }
mutual
theorem WA{ρ:List Nat}{own:Nat→Prop}{w:World}:∀(a:A) (y:Value),shut a=true→R ρ own w a y→R [] own w a y
 |.v x,y,_,h=>by rw[R]at *;exact h
 |.agg cs,y,hs,h=>by
  rw[R]at *
  obtain⟨xs,h1,h2⟩:=h
  exact⟨xs,h1,nJ cs xs (by simpa[shut]using hs) h2⟩
 |.tup cs,y,hs,h=>by
  rw[R]at *
  obtain⟨xs,h1,h2⟩:=h
  exact⟨xs,h1,nJ cs xs (by simpa[shut]using hs) h2⟩
 |.ptr b off,y,hs,_=>by simp[shut]at hs
 |.mp b,y,hs,_=>by simp[shut]at hs
 |.yl b,y,hs,_=>by simp[shut]at hs
 |.lrec nt ps sl a b,y,hs,_=>by simp[shut]at hs
 |.it b,y,hs,_=>by simp[shut]at hs
 |.its s p,y,hs,_=>by simp[shut]at hs
 |.mf cs,y,_,h=>by rw[R]at *;exact h
 |.ref b off len sz,y,hs,_=>by simp[shut]at hs
 |.sl len cs,y,_,h=>by rw[R]at *;exact h
 |.fp cs,y,_,h=>by rw[R]at *;exact h
 |.clo f fs caps,y,hs,h=>by
  rw[R]at *
  obtain⟨xs,ys,h1,h2,h3⟩:=h
  simp only[shut,Bool.and_eq_true]at hs
  exact⟨xs,ys,h1,nJ fs xs hs.1 h2,nJ caps ys hs.2 h3⟩
theorem nJ{ρ:List Nat}{own:Nat→Prop}{w:World}:∀(cs:List A) (ys:List Value),shut.shutL cs=true→RL ρ own w cs ys→RL [] own w cs ys
 |[],ys,_,h=>by rw[RL]at *;exact h
 |c::cs,ys,hs,h=>by
  simp only[shut.shutL,Bool.and_eq_true]at hs
  rw[RL]at *
  obtain⟨x,xs,h1,h2,h3⟩:=h
  exact⟨x,xs,h1,WA c x hs.1 h2,nJ cs xs hs.2 h3⟩
end
mutual
theorem tG{ρ ρ':List Nat}{own own':Nat→Prop}{w w':World}:∀(a:A) (y:Value),iA a=true→R ρ own w a y→R ρ' own' w' a y
 |.v x,y,_,h=>by rw[R]at *;exact h
 |.agg cs,y,hs,h=>by
  rw[R]at *
  obtain⟨xs,h1,h2⟩:=h
  exact⟨xs,h1,pV cs xs (by simpa[iA]using hs) h2⟩
 |.tup cs,y,hs,h=>by
  rw[R]at *
  obtain⟨xs,h1,h2⟩:=h
  exact⟨xs,h1,pV cs xs (by simpa[iA]using hs) h2⟩
 |.ptr b off,y,hs,_=>by simp[iA]at hs
 |.mp b,y,hs,_=>by simp[iA]at hs
 |.yl b,y,hs,_=>by simp[iA]at hs
 |.lrec nt ps sl a b,y,hs,_=>by simp[iA]at hs
 |.it b,y,hs,_=>by simp[iA]at hs
 |.its s p,y,hs,_=>by simp[iA]at hs
 |.mf cs,y,hs,_=>by simp[iA]at hs
 |.ref b off len sz,y,hs,_=>by simp[iA]at hs
 |.sl len cs,y,hs,h=>by
  simp only[iA,Bool.and_eq_true,Nat.beq_eq,List.isEmpty_iff]at hs
  obtain⟨rfl,rfl⟩:=hs
  rw[R]at *
  left
  rcases h with h|⟨g,off,cap,xs,h1,-⟩
  ·exact h
  ·exact⟨rfl,rfl,_,_,h1⟩
 |.fp cs,y,hs,_=>by simp[iA]at hs
 |.clo f fs caps,y,hs,h=>by
  rw[R]at *
  obtain⟨xs,ys,h1,h2,h3⟩:=h
  simp only[iA,Bool.and_eq_true]at hs
  exact⟨xs,ys,h1,pV fs xs hs.1 h2,pV caps ys hs.2 h3⟩
theorem pV{ρ ρ':List Nat}{own own':Nat→Prop}{w w':World}:∀(cs:List A) (ys:List Value),iA.flatL cs=true→RL ρ own w cs ys→RL ρ' own' w' cs ys
 |[],ys,_,h=>by rw[RL]at *;exact h
 |c::cs,ys,hs,h=>by
  simp only[iA.flatL,Bool.and_eq_true]at hs
  rw[RL]at *
  obtain⟨x,xs,h1,h2,h3⟩:=h
  exact⟨x,xs,h1,tG c x hs.1 h2,pV cs xs hs.2 h3⟩
end
end Go.Proofs.YtpdphobnchajbaaGreatDoor.Ev
namespace Go.Proofs.YtpdphobnchajbaaGreatDoor.Ev
open Go Go.RowKit
variable{P:Program}{T:Tb}
theorem L0{H:aG}:∀ n:Nat,(∀(a r:A),freeze H n a=some r→shut a=true→r=a)∧(∀(cs rs:List A),bQ (freeze H n) cs=some rs→shut.shutL cs=true→rs=cs):=by
 intro n
 induction n with
 |zero =>
  refine⟨fun a r h=>by simp[freeze]at h,fun cs=>?_⟩
  cases cs with
  |nil=>intro rs h _;simp[bQ]at h;rw[h]
  |cons c cs=>intro rs h _;unfold bQ at h;simp[freeze]at h
 |succ n ih =>
  have hA:∀(a r:A),freeze H (n+1) a=some r→shut a=true→r=a:=by
   intro a r h hs
   cases a with
   |v x=>simpa[freeze,eq_comm]using h
   |sl len cs=>simpa[freeze,eq_comm]using h
   |fp cs=>simpa[freeze,eq_comm]using h
   |mf cs=>simpa[freeze,eq_comm]using h
   |mp b=>simp[shut]at hs
   |yl b=>simp[shut]at hs
   |lrec nt ps sl a b=>simp[shut]at hs
   |it b=>simp[shut]at hs
   |its s p=>simp[shut]at hs
   |ptr b off=>simp[shut]at hs
   |ref b off len sz=>simp[shut]at hs
   |agg cs =>
    simp only[freeze]at h
    cases hf:bQ (freeze H n) cs with
    |none=>simp[hf]at h
    |some rs =>
     simp only[hf,Option.map_some,Option.some.injEq]at h
     rw[← h,ih.2 cs rs hf (by simpa[shut]using hs)]
   |tup cs =>
    simp only[freeze]at h
    cases hf:bQ (freeze H n) cs with
    |none=>simp[hf]at h
    |some rs =>
     simp only[hf,Option.map_some,Option.some.injEq]at h
     rw[← h,ih.2 cs rs hf (by simpa[shut]using hs)]
   |clo f fs caps =>
    simp only[freeze]at h
    simp only[shut,Bool.and_eq_true]at hs
    cases hf:bQ (freeze H n) fs with
    |none=>simp[hf]at h
    |some rs =>
     cases hf':bQ (freeze H n) caps with
     |none=>simp[hf,hf']at h
     |some rs' =>
      simp only[hf,hf',Option.some.injEq]at h
      rw[← h,ih.2 fs rs hf hs.1,ih.2 caps rs' hf' hs.2]
  refine⟨hA,fun cs=>?_⟩
  induction cs with
  |nil=>intro rs h _;simp[bQ]at h;rw[h]
  |cons c cs ihc =>
   intro rs h hs
   unfold bQ at h
   simp only[shut.shutL,Bool.and_eq_true]at hs
   cases h1:freeze H (n+1) c with
   |none=>simp[h1]at h
   |some r1 =>
    cases h2:bQ (freeze H (n+1)) cs with
    |none=>simp[h1,h2]at h
    |some r2 =>
     simp only[h1,h2,Option.some.injEq]at h
     rw[← h,hA c r1 h1 hs.1,ihc r2 h2 hs.2]
theorem tE{c:Cfg}(ok:Ok T.gl c){own:Nat→Prop}(ho:∀ g,own g→c.own g∧¬ img c.ρ c.H g):∀(as rs:List A) (ys:List Value),aV c.H as=some rs→RL c.ρ c.own c.w as ys→RL [] own c.w rs ys
 |[],rs,ys,h,hr=>by
  simp[aV]at h
  subst h
  rw[RL]at *
  exact hr
 |a::as,rs,ys,h,hr=>by
  unfold aV at h
  cases h1:freeze c.H 20 a with
  |none=>simp[h1]at h
  |some r1 =>
   cases h2:aV c.H as with
   |none=>simp[h1,h2]at h
   |some r2 =>
    simp only[h1,h2,Option.some.injEq]at h
    subst h
    rw[RL]at hr
    obtain⟨x,xs,rfl,h3,h4⟩:=hr
    exact RL.cons ((CY ok ho 20).1 a r1 x h1 h3) (tE ok ho as r2 xs h2 h4)
theorem nV{c:Cfg}:∀(as rs:List A) (ys:List Value),aV c.H as=some rs→as.all shut=true→RL c.ρ c.own c.w as ys→RL [] c.own c.w rs ys
 |[],rs,ys,h,_,hr=>by
  simp[aV]at h
  subst h
  rw[RL]at *
  exact hr
 |a::as,rs,ys,h,hs,hr=>by
  unfold aV at h
  simp only[List.all_cons,Bool.and_eq_true]at hs
  cases h1:freeze c.H 20 a with
  |none=>simp[h1]at h
  |some r1 =>
   cases h2:aV c.H as with
   |none=>simp[h1,h2]at h
   |some r2 =>
    simp only[h1,h2,Option.some.injEq]at h
    subst h
    rw[RL]at hr
    obtain⟨x,xs,rfl,h3,h4⟩:=hr
    rw[(L0 20).1 a r1 h1 hs.1]
    exact RL.cons (WA a x hs.1 h3) (nV as r2 xs h2 hs.2 h4)
def Wd(r:Option Nat):Fence:={ Fence.wide with round:=r }
theorem Wd.fn(r:Option Nat)(f:FuncId):(Wd r).fn f:=trivial
theorem Wd.depth(r:Option Nat):(Wd r).depth=none:=rfl
theorem rV{r:Option Nat}{n:Nat}{f:FuncId}{args:Array Value}{w:World}{R:Ending→World→Prop}(h:Go.Calls P f args w R):CallsIn (Wd r) n P f args w R :=
 (callsIn_wide (n:=n)).2 h
def mX(P:Program)(f:FuncId):Prop:=∀ args w,(callFunc f args).run P w=.ok (.enter f args) w
def O8(P:Program)(f:FuncId)(as:List A)(r:A):Prop:=∀(ρ:List Nat) (own:Nat→Prop) (w:World) (ys:List Value),RL ρ own w as ys→∃ v,(callFunc f ys.toArray).run P w=.ok (.value v) w∧R ρ own w r v
def QOk(T:Tb)(P:Program)(q:eI):Prop:=∀ f as r,q f as=some r→O8 P f as r∨mX P f∧∀(own:Nat→Prop) (w:World) (ys:List Value),(∀ g,own g→g<w.heap.size)→Gl T.gl own w→RL [] own w as ys →
 Go.Calls P f ys.toArray w fun e w'=>∃ v,e=.returned v∧Grow w w'∧R [] own w' r v
def MS(T:Tb)(c:Cfg)(x:A)(H':aG)(e:Ending)(w':World):Prop:=∃ v c',e=.returned v∧c'.w=w'∧c'.H=H'∧To c c'∧Ok T.gl c'∧R c'.ρ c'.own c'.w x v
def nQ(r:Loop)(args:Array Value):Array Value:=(r.params.zip args).foldl (fun tmps (t,a)=>tmps.setIfInBounds t a) r.tmps
def q8(T:Tb)(P:Program)(f:FuncId)(as:List A)(H:aG)(x:A)(H':aG):Prop:=(∃ as',aV H as=some as'∧H'=H∧(as.all shut||iA x)=true∧O8 P f as' x)∨mX P f∧∀(c:Cfg) (ys:List Value),c.H=H→Ok T.gl c→RL c.ρ c.own c.w as ys→Go.Calls P f ys.toArray c.w (MS T c x H')
structure OOk(T:Tb)(P:Program)(o:Orc):Prop where
 fn:∀ f as H x H',o (.fn f) as H=some (x,H')→q8 T P f as H x H'
 yl:∀ b as H x H',o (.yl b) as H=some (x,H')→∀(c:Cfg) (ys:List Value) (l:Nat),c.H=H→Ok T.gl c→RL c.ρ c.own c.w as ys→c.ρ[b]?=some l →
  ∃ rec,c.w.heap[l]?=some (.loop rec)∧ys.length=rec.params.size∧∀(r:Option Nat) (n:Nat),RoundIn (Wd r) n P l rec.fn (nQ rec ys.toArray) rec.assign rec.body c.w (MS T c x H')
section
variable{c:Cfg}{e:Env}{a:Act}{o:Oper}
theorem K9(he:cF c e a){f:FuncId}{as:List A}(h:calls e o.op=some (.fn f,as)):∃ ys,RL c.ρ c.own c.w as ys∧∀ w,(execOp a.eval o).run P w=(callFunc f ys.toArray).run P w:=by
 cases ho:o.op with
 |call cl =>
  rw[ho]at h
  cases hc:cl.callee with
  |value p =>
   simp only[calls,hc]at h
   cases hp:opnd e p with
   |none=>simp[hp]at h
   |some u =>
    cases hcal:callee u with
    |none=>simp[hp,hcal]at h
    |some r =>
     obtain⟨g,fs,caps⟩:=r
     cases has:opnds e cl.args.toList with
     |none=>simp[hp,hcal,has]at h
     |some as' =>
      simp only[hp,hcal,has,Option.bind_some,Option.some.injEq,Prod.mk.injEq]at h
      obtain⟨rfl,rfl⟩:=h
      have hu:=he.opnd hp
      have hargs:=he.opnds has
      have hfin:∃ xs ys:List Value,a.eval p=.func (.func f) xs.toArray ys.toArray∧RL c.ρ c.own c.w fs xs∧RL c.ρ c.own c.w caps ys:=by
       unfold callee at hcal
       split at hcal
       ·rename_i f' fs' caps'
        split at hcal
        ·rename_i hem
         simp only[Option.some.injEq,Prod.mk.injEq,Tgt.fn.injEq]at hcal
         obtain⟨rfl,rfl,rfl⟩:=hcal
         simp only[Bool.and_eq_true,Array.isEmpty_iff]at hem
         obtain⟨rfl,rfl⟩:=hem
         rw[R]at hu
         exact⟨[],[],hu,RL.nil,RL.nil⟩
        ·cases hcal
       ·simp only[Option.some.injEq,Prod.mk.injEq,Tgt.fn.injEq]at hcal
        obtain⟨rfl,rfl,rfl⟩:=hcal
        rw[R]at hu
        exact hu
       ·simp at hcal
       ·cases hcal
      obtain⟨xs,ys,h1,h2,h3⟩:=hfin
      refine⟨xs++cl.args.toList.map a.eval++ys,(h2.append hargs).append h3,fun w=>?_⟩
      have hl:(xs.toArray++cl.args.map a.eval++ys.toArray)=(xs++cl.args.toList.map a.eval++ys).toArray:=by
       apply Array.ext'
       simp
      simp only[execOp,ho,resolve,hc,h1,Deferred.ofValue,Sem.run_bind,Sem.run_pure,Result.andThen_ok,invoke]
      rw[hl]
  |_=>simp[calls,hc]at h
 |_=>rw[ho]at h;simp[calls]at h
theorem YH(he:cF c e a){b:Nat}{as:List A}(h:calls e o.op=some (.yl b,as)):∃ l ys,c.ρ[b]?=some l∧RL c.ρ c.own c.w as ys∧∀ w,(execOp a.eval o).run P w=(Instr.yield l ys.toArray).run P w:=by
 cases ho:o.op with
 |call cl =>
  rw[ho]at h
  cases hc:cl.callee with
  |value p =>
   simp only[calls,hc]at h
   cases hp:opnd e p with
   |none=>simp[hp]at h
   |some u =>
    cases hcal:callee u with
    |none=>simp[hp,hcal]at h
    |some r =>
     obtain⟨g,fs,caps⟩:=r
     cases has:opnds e cl.args.toList with
     |none=>simp[hp,hcal,has]at h
     |some as' =>
      simp only[hp,hcal,has,Option.bind_some,Option.some.injEq,Prod.mk.injEq]at h
      obtain⟨rfl,rfl⟩:=h
      have hu:=he.opnd hp
      have hargs:=he.opnds has
      unfold callee at hcal
      split at hcal
      ·split at hcal<;>simp at hcal
      ·simp at hcal
      ·simp only[Option.some.injEq,Prod.mk.injEq,Tgt.yl.injEq]at hcal
       obtain⟨rfl,rfl,rfl⟩:=hcal
       rw[R]at hu
       obtain⟨l,h1,h2,-⟩:=hu
       refine⟨l,cl.args.toList.map a.eval,h1,by simpa using hargs,fun w=>?_⟩
       have hl:(cl.args.toList.map a.eval).toArray=#[]++cl.args.map a.eval:=by
        apply Array.ext'
        simp
       rw[hl]
       simp only[execOp,ho,resolve,hc,h2,Deferred.ofValue,Sem.run_bind,Sem.run_pure,Result.andThen_ok,invoke]
      ·cases hcal
  |_=>simp[calls,hc]at h
 |_=>rw[ho]at h;simp[calls]at h
theorem cF.put(he:cF c e a){d:Option Nat}{x:A}{y:Value}{n:Nat}(hn:a.tmps.size=n)(hd:∀ t,d=some t→t<n)(hr:R c.ρ c.own c.w x y):cF c (Ev.put e d x) (a.put d y):=by
 cases d with
 |none=>exact he
 |some d =>
  intro t z hz
  have hlt:d<a.tmps.size:=by rw[hn];exact hd d rfl
  rw[Rel.getD_put hlt]
  simp only[Ev.put,cI]at hz
  by_cases htd:t=d
  ·subst htd
   rw[show Nat.beq t t=true from Nat.beq_refl t]at hz
   simp only[cond_true,Option.some.injEq]at hz
   rw[if_pos rfl,← hz]
   exact hr
  ·have hb:Nat.beq d t=false:=by
    cases hb:Nat.beq d t with
    |false=>rfl
    |true=>exact absurd (Nat.eq_of_beq_eq_true hb).symm htd
   rw[hb]at hz
   rw[if_neg htd]
   exact he t z hz
theorem cF.to{c':Cfg}(h:To c c')(ok:Ok T.gl c)(he:cF c e a):cF c' e a:=fun t x hx=>(he t x hx).to h ok
theorem cF.keep(he:cF c e a)(l:List Nat):cF c (dU e l) a:=fun t x hx=>by
 rw[iC]at hx
 split at hx
 ·exact he t x hx
 ·cases hx
end
def sS(n:Nat)(ops:List Oper)(o:Oper):Option MOp :=
 match o.op with
 |.defer _=>none
 |_ =>
  if o.dst.all (fun d=>Nat.blt d n)then
   match o.guard with
   |none=>some ⟨o.dst,o.op,none⟩
   |some (g,b)=>match(ops[g]?).bind (·.dst)with
    |some t=>some ⟨o.dst,o.op,some (t,b)⟩
    |none=>none
  else none
def gZ(n:Nat)(ops:List Oper):List Oper→Option (List MOp)
 |[]=>some []
 |o::l=>match sS n ops o,gZ n ops l with
  |some m,some ms=>some (m::ms)
  |_,_=>none
structure F0(n:Nat)(ops:List Oper)(o:Oper)(m:MOp):Prop where
 dst:m.dst=o.dst
 op:m.op=o.op
 lt:∀ t,o.dst=some t→t<n
 defer:∀ c,o.op≠.defer c
 guard:(o.guard=none∧m.guard=none)∨∃ g b t,o.guard=some (g,b)∧(ops[g]?).bind (·.dst)=some t∧m.guard=some (t,b)
theorem zI{n:Nat}{ops:List Oper}{o:Oper}{m:MOp}(h:sS n ops o=some m):F0 n ops o m:=by
 have hd:∀ c,o.op≠.defer c:=by
  intro c hc
  simp[sS,hc]at h
 have h':(if o.dst.all (fun d=>Nat.blt d n)then
   match o.guard with
   |none=>some ⟨o.dst,o.op,none⟩
   |some (g,b)=>match(ops[g]?).bind (·.dst)with
    |some t=>some ⟨o.dst,o.op,some (t,b)⟩
    |none=>none
  else none:Option MOp)=some m:=by
  rw[← h]
  unfold sS
  cases ho:o.op<;>first
   |rfl
   |exact absurd ho (hd _)
 split at h'
 ·rename_i hall
  have hlt:∀ t,o.dst=some t→t<n:=by
   intro t ht
   rw[ht]at hall
   have hh:t+1≤n:=by simpa[Nat.blt]using hall
   exact hh
  cases hg:o.guard with
  |none =>
   simp only[hg,Option.some.injEq]at h'
   subst h'
   exact⟨rfl,rfl,hlt,hd,.inl ⟨hg,rfl⟩⟩
  |some gb =>
   obtain⟨g,b⟩:=gb
   simp only[hg]at h'
   cases hx:(ops[g]?).bind (·.dst)with
   |none=>simp[hx]at h'
   |some t =>
    simp only[hx,Option.some.injEq]at h'
    subst h'
    exact⟨rfl,rfl,hlt,hd,.inr ⟨g,b,t,hg,hx,rfl⟩⟩
 ·cases h'
theorem yS{n:Nat}{ops:List Oper}:∀{l:List Oper} {ms:List MOp},gZ n ops l=some ms→ms.length=l.length∧∀(i:Nat) o,l[i]?=some o→∃ m,ms[i]?=some m∧F0 n ops o m
 |[],ms,h=>by
  simp[gZ]at h
  subst h
  exact⟨rfl,fun i o h=>by simp at h⟩
 |o::l,ms,h=>by
  unfold gZ at h
  cases h1:sS n ops o with
  |none=>simp[h1]at h
  |some m =>
   cases h2:gZ n ops l with
   |none=>simp[h1,h2]at h
   |some ms' =>
    simp only[h1,h2,Option.some.injEq]at h
    subst h
    obtain⟨h3,h4⟩:=yS h2
    refine⟨by simp[h3],fun i o' hi=>?_⟩
    cases i with
    |zero =>
     simp at hi
     subst hi
     exact⟨m,rfl,zI h1⟩
    |succ i=>simpa using h4 i o' (by simpa using hi)
theorem wJ{n:Nat}{ops:List Oper}:∀(k:Nat) {l:List Oper} {ms:List MOp},gZ n ops l=some ms→gZ n ops (l.drop k)=some (ms.drop k)
 |0,l,ms,h=>by simpa using h
 |k+1,[],ms,h=>by simp[gZ]at h;subst h;simp[gZ]
 |k+1,o::l,ms,h=>by
  unfold gZ at h
  cases h1:sS n ops o with
  |none=>simp[h1]at h
  |some m =>
   cases h2:gZ n ops l with
   |none=>simp[h1,h2]at h
   |some ms' =>
    simp only[h1,h2,Option.some.injEq]at h
    subst h
    simpa using wJ k h2
theorem sK{c:Cfg}{e:Env}{a:Act}{n:Nat}{ops:List Oper}{o:Oper}{m:MOp}(hc:F0 n ops o m)(he:∀ t z,(∃ g b,o.guard=some (g,b)∧(ops[g]?).bind (·.dst)=some t)→cI e t=some z→R c.ρ c.own c.w z (a.tmps.getD t undef)){b:Bool}(h:wants e m.guard=some b) :
  Region.wanted o (yielded ops.toArray a.tmps)=b:=by
 rcases hc.guard with⟨h1,h2⟩|⟨g,b',t,h1,h2,h3⟩
 ·rw[h2]at h
  simp[wants]at h
  subst h
  simp[Region.wanted,h1]
 ·rw[h3]at h
  simp only[wants]at h
  cases hl:cI e t with
  |none=>simp[hl]at h
  |some z =>
   have hr:=he t z ⟨g,b',h1,h2⟩ hl
   rw[hl]at h
   split at h
   ·rename_i x heq
    obtain rfl:=Option.some.inj heq
    obtain rfl:=Option.some.inj h
    rw[R]at hr
    have hget:a.tmps[t]?=some (.bool x):=by
     rw[Array.getD_eq_getD_getElem?]at hr
     cases hh:a.tmps[t]? with
     |none=>rw[hh]at hr;simp[undef]at hr
     |some y=>rw[hh]at hr;simp at hr;rw[hr]
    have h2':(ops.toArray[g]?).bind (·.dst)=some t:=by simpa using h2
    simp only[Region.wanted,h1,yielded,h2',Option.bind_some,hget]
    cases x<;>cases b'<;>rfl
   ·rename_i xs heq
    obtain rfl:=Option.some.inj heq
    obtain rfl:=Option.some.inj h
    rw[R]at hr
    have h2':(ops.toArray[g]?).bind (·.dst)=some t:=by simpa using h2
    simp only[Region.wanted,h1,yielded,h2',Option.bind_some]
    rw[Array.getD_eq_getD_getElem?]at hr
    cases hh:a.tmps[t]? with
    |none=>rfl
    |some y =>
     rw[hh]at hr
     simp at hr
     rw[hr]
     rfl
   ·cases h
section
variable{q:eI}{ov:Orc}{r:Option Nat}{n nt:Nat}{ops:List Oper}
theorem aDs(hT:TOk P T)(hO:OOk T P ov){c:Cfg}(ok:Ok T.gl c){st:St}(hH:c.H=st.H){a:Act}(he:cF c st.env a){o:Oper}{x:A}{H':aG}(hd:∀ c,o.op≠.defer c)(h:bZ T ov st o.op=some (x,H')){K:Act→World→Prop}{Q:Exit→Act→World→Prop}
  (hK:∀ y c',c'.H=H'→To c c'→Ok T.gl c'→R c'.ρ c'.own c'.w x y→K (a.put o.dst y) c'.w):o.wpIn (Wd r) n P a c.w K Q:=by
 refine⟨fun f _=>Wd.fn r f,?_⟩
 rw[Oper.semAt_eq _ _ _ hd]
 unfold bZ at h
 cases hcs:calls st.env o.op with
 |some fa =>
  obtain⟨f|b,as⟩:=fa
  rotate_left
  ·simp only[hcs]at h
   obtain⟨l,ys,h1,h2,h3⟩:=YH (P:=P) he hcs
   obtain⟨rec,h4,h5,h6⟩:=hO.yl b as st.H x H' h c ys l hH ok h2 h1
   rw[h3 c.w,run_yield h4 (by simpa using h5)]
   refine⟨(fun h=>by cases h),(h6 r (n-1)).mono ?_⟩
   rintro e w' ⟨v,c',rfl,rfl,k1,k2,k3,k4⟩
   exact hK v c' k1 k2 k3 k4
  simp only[hcs]at h
  obtain⟨ys,h1,h2⟩:=K9 (P:=P) he hcs
  rw[h2 c.w]
  rcases hO.fn f as st.H x H' h with⟨as',hl,rfl,hsf,hat⟩|⟨hen,hcall⟩
  ·rw[← hH]at hl
   rw[Bool.or_eq_true]at hsf
   rcases hsf with hs|hfl
   ·obtain⟨v,k1,k2⟩:=hat [] c.own c.w ys (nV as as' ys hl hs h1)
    rw[k1]
    exact hK v c hH (To.refl c) ok k2.open_
   ·obtain⟨v,k1,k2⟩:=hat [] (fun g=>c.own g∧¬ img c.ρ c.H g) c.w ys (tE ok (fun g hg=>hg) as as' ys hl h1)
    rw[k1]
    exact hK v c hH (To.refl c) ok (tG x v hfl k2)
  rw[hen]
  refine⟨(fun h=>by cases h),rV ((hcall c ys hH ok h1).mono ?_)⟩
  rintro e w' ⟨v,c',rfl,rfl,k1,k2,k3,k4⟩
  exact hK v c' k1 k2 k3 k4
 |none =>
  simp only[hcs]at h
  have hmk:dV T P c a o x H':=by
   cases hl:aR T st.env st.H o.op with
   |some rr =>
    simp only[hl,Option.some.injEq]at h
    subst h
    rw[← hH]at hl
    exact aI9 hT ok he hl
   |none =>
    simp only[hl]at h
    cases hq:aN T st.env st.H o.op with
    |none=>simp[hq]at h
    |some z =>
     simp only[hq,Option.map_some,Option.some.injEq,Prod.mk.injEq]at h
     obtain⟨rfl,rfl⟩:=h
     rw[← hH]at hq ⊢
     exact(JA hT ok he hq).makes ok
  obtain⟨rr,y,c',h1,h2,h3,h4,h5,h6⟩:=hmk
  rw[h1]
  rcases h2 with rfl|⟨rfl,rfl⟩
  ·exact hK y c' h3 h4 h5 h6
  ·exact hK undef c' h3 h4 h5 h6
theorem yI(hT:TOk P T)(hO:OOk T P ov){Q:Exit→Act→World→Prop}:∀(os:List Oper) (ms:List MOp) (st st':St) (a:Act) (c:Cfg),gZ nt ops os=some ms→bM T q ov 0 ms st=some st'→c.H=st.H→Ok T.gl c→cF c st.env a→a.tmps.size=nt →
  (∀ a' c',c'.H=st'.H→To c c'→Ok T.gl c'→cF c' st'.env a'→a'.tmps.size=nt→a'.defers=a.defers→Q .normal a' c'.w)→wpListIn (Wd r) n P ops.toArray Q os a c.w
 |[],ms,st,st',a,c,hc,h,hH,ok,he,hs,hQ=>by
  simp[gZ]at hc
  subst hc
  simp[bM]at h
  subst h
  exact hQ a c hH (To.refl c) ok he hs rfl
 |o::os,ms,st,st',a,c,hc,h,hH,ok,he,hs,hQ=>by
  unfold gZ at hc
  cases h1:sS nt ops o with
  |none=>simp[h1]at hc
  |some m =>
   cases h2:gZ nt ops os with
   |none=>simp[h1,h2]at hc
   |some ms' =>
    simp only[h1,h2,Option.some.injEq]at hc
    subst hc
    have hm:=zI h1
    unfold bM at h
    cases hw:wants st.env m.guard with
    |none=>simp[hw]at h
    |some b =>
     have hwant:=sK (c:=c) (a:=a) hm (fun t z _ hz=>he t z hz) hw
     cases b with
     |false =>
      simp only[hw]at h
      unfold wpListIn
      rw[hwant]
      simp only[Bool.false_eq_true,if_false]
      refine⟨fun f _=>Wd.fn r f,?_⟩
      rw[hm.dst]at h
      exact yI hT hO os ms' _ st' _ c h2 h hH ok (he.put hs hm.lt (by rw[R])) (by rw[Rel.size_put,hs]) fun a' c' k1 k2 k3 k4 k5 k6=>hQ a' c' k1 k2 k3 k4 k5 (by rw[k6,Rel.defers_put])
     |true =>
      simp only[hw]at h
      cases hop:bZ T ov st m.op with
      |none=>simp[hop]at h
      |some xH =>
       obtain⟨x,H'⟩:=xH
       simp only[hop]at h
       unfold wpListIn
       rw[hwant]
       simp only[if_true]
       rw[hm.op]at hop
       rw[hm.dst]at h
       refine aDs hT hO ok hH he hm.defer hop fun y c' k1 k2 k3 k4=>?_
       exact yI hT hO os ms' _ st' _ c' h2 h k1 k3 ((he.to k2 ok).put hs hm.lt k4) (by rw[Rel.size_put,hs]) fun a' c'' j1 j2 j3 j4 j5 j6=>hQ a' c'' j1 (k2.trans j2) j3 j4 j5 (by rw[j6,Rel.defers_put])
end
end Go.Proofs.YtpdphobnchajbaaGreatDoor.Ev
namespace Go.Proofs.YtpdphobnchajbaaGreatDoor.Ev
open Go Go.RowKit
variable{P:Program}{T:Tb}
def jY(T:Tb)(q:eI)(st:St)(m:MOp):Option A :=
 match wants st.env m.guard with
 |none=>none
 |some false=>some (.v undef)
 |some true=>d9 T q st m.op
def dA(e:Env):List MOp→List A→Env
 |m::ms,x::xs=>dA (put e m.dst x) ms xs
 |_,_=>e
theorem oB{q:eI}{ov:Orc}:∀(ms:List MOp) (k:Nat) (st st':St),k≤ms.length→bM T q ov k ms st=some st' →
  ∃ xs:List A,xs.length=k∧bM T q ov 0 (ms.drop k) ⟨dA st.env (ms.take k) xs,st.H⟩=some st'∧∀(i:Nat) m,i<k→ms[i]?=some m→∃ x,xs[i]?=some x∧jY T q ⟨dA st.env (ms.take i) (xs.take i),st.H⟩ m=some x
 |ms,0,st,st',_,h=>⟨[],rfl,by simpa[dA]using h,fun i m hi=>by omega⟩
 |[],k+1,st,st',hk,h=>by simp at hk
 |m::ms,k+1,st,st',hk,h=>by
  have hstep:∃ x,jY T q st m=some x∧bM T q ov k ms ⟨put st.env m.dst x,st.H⟩=some st':=by
   unfold bM at h
   unfold jY
   cases hw:wants st.env m.guard with
   |none=>simp[hw]at h
   |some b =>
    cases b with
    |false =>
     simp only[hw,Nat.add_sub_cancel]at h
     exact⟨_,rfl,h⟩
    |true =>
     simp only[hw]at h
     cases hf:d9 T q st m.op with
     |none=>simp[hf]at h
     |some x =>
      simp only[hf]at h
      exact⟨x,rfl,h⟩
  obtain⟨x,h1,h2⟩:=hstep
  obtain⟨xs,h3,h4,h5⟩:=oB ms k _ st' (by simpa using hk) h2
  refine⟨x::xs,by simp[h3],by simpa[dA]using h4,fun i m' hi hm=>?_⟩
  cases i with
  |zero =>
   simp at hm
   subst hm
   exact⟨x,rfl,by simpa[dA]using h1⟩
  |succ i =>
   obtain⟨z,h6,h7⟩:=h5 i m' (by omega) (by simpa using hm)
   exact⟨z,by simpa using h6,by simpa[dA]using h7⟩
theorem H9{e:Env}{d:Option Nat}{x:A}{t:Nat}:cI (put e d x) t=if d=some t then some x else cI e t:=by
 cases d with
 |none=>simp[put]
 |some d =>
  simp only[put,cI,Option.some.injEq]
  by_cases h:d=t
  ·subst h
   rw[show Nat.beq d d=true from Nat.beq_refl d]
   simp
  ·have hb:Nat.beq d t=false:=by
    cases hb:Nat.beq d t with
    |false=>rfl
    |true=>exact absurd (Nat.eq_of_beq_eq_true hb) h
   simp[hb,h]
theorem kV{t:Nat}:∀(ms:List MOp) (xs:List A) (e:Env),(∀ m∈ms,m.dst≠some t)→cI (dA e ms xs) t=cI e t
 |[],_,_,_=>by simp[dA]
 |_::_,[],_,_=>by simp[dA]
 |m::ms,x::xs,e,h=>by
  simp only[dA]
  rw[kV ms xs _ (fun m' hm=>h m' (.tail _ hm)),H9,if_neg (h m (.head _))]
theorem oE{t:Nat}:∀(ms:List MOp) (xs:List A) (e:Env) (j:Nat) (m:MOp) (x:A),ms[j]?=some m→xs[j]?=some x→m.dst=some t→(∀(i:Nat) m',ms[i]?=some m'→m'.dst=some t→i=j)→cI (dA e ms xs) t=some x
 |[],_,_,j,m,x,h,_,_,_=>by simp at h
 |_::_,[],_,j,m,x,_,h,_,_=>by simp at h
 |m0::ms,x0::xs,e,j,m,x,hm,hx,hd,hu=>by
  simp only[dA]
  cases j with
  |zero =>
   simp at hm hx
   subst hm hx
   rw[kV,H9,if_pos hd]
   intro m' hm' hd'
   obtain⟨i,hi⟩:=List.mem_iff_getElem?.1 hm'
   have:=hu (i+1) m' (by simpa using hi) hd'
   omega
  |succ j =>
   exact oE ms xs _ j m x (by simpa using hm) (by simpa using hx) hd fun i m' hi hd'=>by
    have:=hu (i+1) m' (by simpa using hi) hd'
    omega
theorem rC:∀{F:List (Value→World→Prop)} {w:World} {K:List Value→Prop},(∀ vs:List Value,vs.length=F.length→(∀(i:Nat) R v,F[i]?=some R→vs[i]?=some v→R v w)→K vs)→Rel.forAllV F w K
 |[],_,_,h=>h [] rfl (fun i R v h=>by simp at h)
 |R::F,w,K,h=>fun v hv=>rC fun vs hl hR=>h (v::vs) (by simp[hl]) fun i R' v' h1 h2=>by
  cases i with
  |zero =>
   simp at h1 h2
   subst h1 h2
   exact hv
  |succ i=>exact hR i R' v' (by simpa using h1) (by simpa using h2)
theorem I6{c:Cfg}:∀(os:List Oper) (ms:List MOp) (xs:List A) (vs:List Value) (e:Env) (a:Act) (n:Nat),ms.length=os.length→xs.length=os.length→vs.length=os.length →
  (∀(i:Nat) o m,os[i]?=some o→ms[i]?=some m→m.dst=o.dst∧∀ t,o.dst=some t→t<n)→(∀(i:Nat) x v,xs[i]?=some x→vs[i]?=some v→R c.ρ c.own c.w x v)→a.tmps.size=n→cF c e a →
  cF c (dA e ms xs) (Rel.putAll a os vs)∧(Rel.putAll a os vs).tmps.size=n∧(Rel.putAll a os vs).defers=a.defers
 |[],[],[],[],e,a,n,_,_,_,_,_,hs,he=>⟨he,hs,rfl⟩
 |o::os,m::ms,x::xs,v::vs,e,a,n,h1,h2,h3,h4,h5,hs,he=>by
  obtain⟨hd,hlt⟩:=h4 0 o m rfl rfl
  simp only[dA,Rel.putAll]
  rw[hd]
  have:=I6 os ms xs vs (put e o.dst x) (a.put o.dst v) n (by simpa using h1) (by simpa using h2) (by simpa using h3) (fun i o' m' ho hm=>h4 (i+1) o' m' (by simpa using ho) (by simpa using hm)) (fun i x' v' hx hv=>h5 (i+1) x' v' (by simpa using hx) (by simpa using hv)) (by rw[Rel.size_put,hs]) (he.put hs hlt (h5 0 x v rfl rfl))
  rw[Rel.defers_put]at this
  exact this
 |[],_::_,_,_,_,_,_,h,_,_,_,_,_,_=>by simp at h
 |[],[],_::_,_,_,_,_,_,h,_,_,_,_,_=>by simp at h
 |[],[],[],_::_,_,_,_,_,_,h,_,_,_,_=>by simp at h
 |_::_,[],_,_,_,_,_,h,_,_,_,_,_,_=>by simp at h
 |_::_,_::_,[],_,_,_,_,_,h,_,_,_,_,_=>by simp at h
 |_::_,_::_,_::_,[],_,_,_,_,_,h,_,_,_,_=>by simp at h
section
variable{q:eI}{ov:Orc}{r:Option Nat}{n nt:Nat}{ops:List Oper}{o:Oper}
theorem WE(hT:TOk P T)(hQ:QOk T P q){c:Cfg}(ok:Ok T.gl c){st:St}(hH:c.H=st.H){a:Act}(he:cF c (dU st.env (FB o.op)) a){x:A}(hd:∀ c,o.op≠.defer c)(h:d9 T q st o.op=some x) :
  Rel.opOkIn (Wd r) n P Grow (fun v w'=>R c.ρ c.own w' x v) c.w ((o.semAt (Wd r).round a.eval).run P c.w):=by
 rw[Oper.semAt_eq _ _ _ hd]
 have hag:=zG st.env o.op
 unfold d9 at h
 cases hcs:calls st.env o.op with
 |some fa =>
  obtain⟨f|b0,as⟩:=fa
  rotate_left
  ·simp[hcs]at h
  simp only[hcs]at h
  cases hl:aV st.H as with
  |none=>simp[hl]at h
  |some as' =>
   simp only[hl]at h
   cases hq:q f as' with
   |none=>simp[hq]at h
   |some rr =>
    simp only[hq]at h
    split at h
    ·rename_i hsf
     obtain rfl:=Option.some.inj h
     rw[lG hag]at hcs
     obtain⟨ys,h1,h2⟩:=K9 (P:=P) he hcs
     rw[h2 c.w]
     rw[← hH]at hl
     rw[Bool.or_eq_true]at hsf
     rcases hQ f as' rr hq with hat|⟨hen,hcall⟩
     ·rcases hsf with hs|hfl
      ·obtain⟨v,k1,k2⟩:=hat [] c.own c.w ys (nV as as' ys hl hs h1)
       rw[k1]
       exact⟨Below.refl _ _,k2.open_⟩
      ·obtain⟨v,k1,k2⟩:=hat [] (fun g=>c.own g∧¬ img c.ρ c.H g) c.w ys (tE ok (fun g hg=>hg) as as' ys hl h1)
       rw[k1]
       exact⟨Below.refl _ _,tG rr v hfl k2⟩
     rw[hen]
     refine rV ?_
     rcases hsf with hs|hfl
     ·refine(hcall c.own c.w ys ok.lt ok.glob (nV as as' ys hl hs h1)).mono ?_
      rintro e w' ⟨v,rfl,hg,hv⟩
      exact⟨v,rfl,hg,hv.open_⟩
     ·refine(hcall (fun g=>c.own g∧¬ img c.ρ c.H g) c.w ys (fun g hg=>ok.lt g hg.1) (ok.glob.less fun g h=>h.1) (tE ok (fun g hg=>hg) as as' ys hl h1)).mono ?_
      rintro e w' ⟨v,rfl,hg,hv⟩
      exact⟨v,rfl,hg,tG rr v hfl hv⟩
    ·cases h
 |none =>
  simp only[hcs]at h
  have viaQuiet:aN T st.env st.H o.op=some x→Rel.opOkIn (Wd r) n P Grow (fun v w'=>R c.ρ c.own w' x v) c.w ((execOp a.eval o).run P c.w):=by
   intro hq
   rw[kX hag,← hH]at hq
   obtain⟨y,h1,h2⟩:=JA hT ok he hq
   rw[h1]
   exact⟨Below.refl _ _,h2⟩
  cases hop:o.op<;>rw[hop]at h<;>simp only at h
  case buildSlice t len ps =>
   rw[hop]at he
   cases hlc:iK T st.env t len ps with
   |none=>simp[hlc]at h
   |some tc =>
    obtain⟨el,sz,cs⟩:=tc
    simp only[hlc]at h
    split at h
    ·rename_i hsc
     obtain rfl:=Option.some.inj h
     simp only[Bool.and_eq_true]at hsc
     rw[uR (by rw[hop]at hag;exact hag)]at hlc
     obtain⟨xs,h1,h2,h3,h4,hrun⟩:=wB hT he hlc
     have hx:execOp a.eval o=(do pure (.value (← Instr.buildSlice t len (ps.map fun(i,x)=>(i,a.eval x)))):Sem Next):=by simp only[execOp,hop]
     rw[hx]
     simp only[Sem.run_bind,hrun,Result.andThen_ok,Sem.run_pure]
     refine⟨(Below.refl _ _).alloc (Nat.le_refl _) _,?_⟩
     simp only[R]
     by_cases h0:len=0
     ·left
      subst h0
      have:cs=[]:=by
       have:=h1.length
       rw[h3]at this
       exact List.eq_nil_of_length_eq_zero (by simpa using this.symm)
      exact⟨rfl,this,_,_,rfl⟩
     ·right
      refine⟨c.w.heap.size,0,len,xs,rfl,Nat.le_refl _,by simp,fun ho=>?_,RL.keep (rR ((Below.refl _ _).alloc (Nat.le_refl _) _)) _ _ (nJ cs xs hsc.1 h1),fun i x hx=>?_⟩
      ·have:=ok.lt _ ho
       omega
      ·simp only[Nat.zero_add]
       rw[World.cell?_alloc_new]
       simpa using hx
    ·cases h
  all_goals(rw[← hop]at h;exact viaQuiet h)
end
end Go.Proofs.YtpdphobnchajbaaGreatDoor.Ev
namespace Go.Proofs.YtpdphobnchajbaaGreatDoor.Ev
open Go Go.RowKit
variable{P:Program}{T:Tb}
section
variable{q:eI}{ov:Orc}{r:Option Nat}{n nt:Nat}{ops:List Oper}
theorem aGP(hm:P.follows .mixedOrders=true)(hT:TOk P T)(hQ:QOk T P q)(hO:OOk T P ov){id k:Nat}{ms:List MOp}{st st':St}{a:Act}{c:Cfg}{Q:Exit→Act→World→Prop}(hc:gZ nt ops ops=some ms)(hf:Rel.fine ops nt k=true)(h:bM T q ov k ms st=some st')
  (hH:c.H=st.H) (ok:Ok T.gl c) (he:cF c st.env a) (hs:a.tmps.size=nt)
  (hK:∀ a' c',c'.H=st'.H→To c c'→Ok T.gl c'→cF c' st'.env a'→a'.tmps.size=nt→a'.defers=a.defers→Q .normal a' c'.w):(Code.region id ops.toArray true).wpIn (Wd r) n P Q a c.w:=by
 subst hs
 obtain⟨hml,hmg⟩:=yS hc
 have hk:k≤ops.length:=Rel.fine_le hf
 obtain⟨xs,hxl,hrest,hstep⟩:=oB ms k st st' (by omega) h
 have hF:∀(j:Nat) x,xs[j]?=some x→((xs.map fun x (v:Value) (w':World)=>R c.ρ c.own w' x v).getD j fun _ _=>True)=fun v w'=>R c.ρ c.own w' x v:=by
  intro j x hx
  simp[List.getD_eq_getElem?_getD,hx]
 have mget:∀(i:Nat) m,ms[i]?=some m→∃ o,ops[i]?=some o∧F0 a.tmps.size ops o m:=by
  intro i m hi
  have hlt:i<ops.length:=by
   have:=(List.getElem?_eq_some_iff.1 hi).1
   omega
  obtain⟨m',h1,h2⟩:=hmg i _ (List.getElem?_eq_getElem hlt)
  rw[hi]at h1
  obtain rfl:=Option.some.inj h1
  exact⟨_,List.getElem?_eq_getElem hlt,h2⟩
 refine Rel.wpIn_region_rel (Wd.fn r) (Wd.depth r) k Grow (xs.map fun x v w'=>R c.ρ c.own w' x v) hm hf (by simp[hxl]) Rel.Grow.refl Rel.Grow.trans (Rel.Grow.drew _) ?_ ?_ ?_
 ·intro F hFm v w1 w2 h1 h2 hv
  obtain⟨x,-,rfl⟩:=List.mem_map.1 hFm
  exact R.keep (rR h2) _ _ hv
 ·intro i o hi ho a' w' hG hsz hfacts
  obtain⟨m,hmi,hcm⟩:=hmg i o ho
  obtain⟨x,hxi,hst⟩:=hstep i m hi hmi
  rw[hF i x hxi]
  obtain⟨hto,ok'⟩:=ok.grow hG
  have slot:∀ t∈o.looksAt ops.toArray,∀ z,cI (dA st.env (ms.take i) (xs.take i)) t=some z→R c.ρ c.own w' z (a'.tmps.getD t undef):=by
   intro t ht z hz
   have hpre:=(Rel.fine_at hf ho hi).1 t ht
   have hsf:=hfacts t hpre
   unfold Rel.slotFact at hsf
   cases hw:Rel.writer (ops.take k) 0 t with
   |some j =>
    rw[hw]at hsf
    have hjp:=hpre j hw
    have hji:=(Rel.ancOk_at (Rel.fine_anc hf) ho).1 j hjp
    obtain⟨-,oj,hoj,hdj⟩:=Rel.writer_some hw
    obtain⟨hoj',hjk⟩:=Rel.take_get (by simpa using hoj:(ops.take k)[j]?=some oj)
    obtain⟨mj,hmj,hcj⟩:=hmg j oj hoj'
    obtain⟨xj,hxj,-⟩:=hstep j mj hjk hmj
    simp only[hF j xj hxj]at hsf
    have hlook:=oE (t:=t) (ms.take i) (xs.take i) st.env j mj xj (by rw[List.getElem?_take_of_lt hji];exact hmj) (by rw[List.getElem?_take_of_lt hji];exact hxj) (by rw[hcj.dst];exact hdj) (by
     intro i' m' hi' hd'
     have hlt:i'<i:=by
      have:=(List.getElem?_eq_some_iff.1 hi').1
      simp at this
      omega
     rw[List.getElem?_take_of_lt hlt]at hi'
     obtain⟨o',ho',hc'⟩:=mget i' m' hi'
     rw[hc'.dst]at hd'
     obtain⟨-,d,hd,-,hdw⟩:=Rel.fine_at hf ho' (by omega)
     obtain rfl:=Option.some.inj (hd.symm.trans hd')
     rw[hw]at hdw
     exact(Option.some.inj hdw).symm)
    rw[hlook]at hz
    obtain rfl:=Option.some.inj hz
    exact hsf
   |none =>
    rw[hw]at hsf
    simp only at hsf
    rw[kV]at hz
    ·rw[hsf]
     exact R.keep (rR hG) _ _ (he t z hz)
    ·intro m' hm' hd'
     obtain⟨i',hi'⟩:=List.mem_iff_getElem?.1 hm'
     have hlt:i'<i:=by
      have:=(List.getElem?_eq_some_iff.1 hi').1
      simp at this
      omega
     rw[List.getElem?_take_of_lt hlt]at hi'
     obtain⟨o',ho',hc'⟩:=mget i' m' hi'
     rw[hc'.dst]at hd'
     exact Rel.writer_none hw o' (List.mem_of_getElem? (by rw[List.getElem?_take_of_lt (by omega:i'<k)];exact ho':(ops.take k)[i']?=some o')) hd'
  unfold jY at hst
  cases hwt:wants (dA st.env (ms.take i) (xs.take i)) m.guard with
  |none=>simp[hwt]at hst
  |some b =>
   have hwant:=sK (c:=⟨c.ρ,c.own,c.H,w'⟩) (a:=a') hcm (fun t z hgt hz=>by
    obtain⟨g,b',g1,ht'⟩:=hgt
    refine slot t ?_ z hz
    unfold Oper.looksAt
    rw[g1]
    refine List.mem_append_right _ ?_
    have:(ops.toArray[g]?).bind (·.dst)=some t:=by simpa using ht'
    simp only[this,Option.toList_some,List.mem_singleton]) hwt
   rw[hwant]
   cases b with
   |false =>
    simp only[hwt,Option.some.injEq]at hst
    subst hst
    simp only[Bool.false_eq_true,if_false,R]
   |true =>
    simp only[hwt]at hst
    simp only[if_true]
    refine WE hT hQ (c:=⟨c.ρ,c.own,c.H,w'⟩) ok' (st:=⟨dA st.env (ms.take i) (xs.take i),st.H⟩) hH ?_ hcm.defer (by rw[← hcm.op];exact hst)
    intro t z hz
    rw[iC]at hz
    split at hz
    ·rename_i hts
     refine slot t ?_ z hz
     unfold Oper.looksAt
     exact List.mem_append_left _ hts
    ·cases hz
 ·intro w' hG
  obtain⟨hto,ok'⟩:=ok.grow hG
  refine rC fun vs hvl hvR=>?_
  rw[List.length_map,hxl]at hvl
  have hval:∀(i:Nat) x v,xs[i]?=some x→vs[i]?=some v→R c.ρ c.own w' x v:=by
   intro i x v hx hv
   have:=hvR i (fun v w'=>R c.ρ c.own w' x v) v (by simp[hx]) hv
   exact this
  have hlk:(ops.take k).length=k:=by rw[List.length_take];omega
  obtain⟨he',hs',hd'⟩:=I6 (c:=⟨c.ρ,c.own,c.H,w'⟩) (ops.take k) (ms.take k) xs vs st.env a a.tmps.size (by rw[List.length_take,List.length_take];omega) (by omega) (by omega) (by
   intro i o m ho hmi
   have hlt:i<k:=by
    have:=(List.getElem?_eq_some_iff.1 ho).1
    omega
   rw[List.getElem?_take_of_lt hlt]at ho hmi
   obtain⟨o',ho',hc'⟩:=mget i m hmi
   rw[ho]at ho'
   obtain rfl:=Option.some.inj ho'
   exact⟨hc'.dst,hc'.lt⟩) hval rfl (he.to hto ok)
  exact yI (r:=r) (n:=n) hT hO (ops.drop k) (ms.drop k) _ st' _ ⟨c.ρ,c.own,c.H,w'⟩ (wJ k hc) hrest hH ok' he' hs' fun a' c' k1 k2 k3 k4 k5 k6=>hK a' c' k1 (hto.trans k2) k3 k4 k5 (k6.trans hd')
end
end Go.Proofs.YtpdphobnchajbaaGreatDoor.Ev
namespace Go.Proofs.YtpdphobnchajbaaGreatDoor.Ev
open Go Go.RowKit
variable{P:Program}{T:Tb}
def g7:Op→Bool
 |.move _|.assign _|.pick _ _ _|.binOp _ _ _ _ _|.unOp _ _ _|.extract _ _|.fieldAddr _ _ _|.indexAddr _ _ _=>true
 |.convert _ t _=>!Nat.beq t 9
 |_=>false
theorem BV{e:Env}{op:Op}(h:g7 op=true)(H H':aG):aN T e H op=aN T e H' op:=by
 cases op with
 |convert s t x =>
  simp only[g7,Bool.not_eq_true']at h
  simp only[aN,h,cond_false]
 |_=>first|rfl|(simp[g7]at h;done)
theorem QU{e:Env}{op:Op}(h:g7 op=true):calls e op=none:=by
 cases op<;>first|rfl|(simp[g7]at h;done)
theorem X2{e:Env}{H:aG}{op:Op}(h:g7 op=true):aR T e H op=none:=by
 cases op<;>first|rfl|(simp[g7]at h;done)
theorem CI{q:eI}{st:St}{op:Op}(h:g7 op=true):d9 T q st op=aN T st.env st.H op:=by
 cases op<;>first|rfl|(simp[g7]at h;done)
theorem HM{ov:Orc}{st:St}{op:Op}(h:g7 op=true):bZ T ov st op=(aN T st.env st.H op).map fun a=>(a,st.H):=by
 unfold bZ
 rw[QU h,X2 h]
theorem PE{e e':Env}{H:aG}{op:Op}(h:gV op.operands.toList e e'):aR T e H op=aR T e' H op:=by
 cases op with
 |box t x=>simp only[aR];rw[h x (by simp[Op.operands])]
 |buildSlice t n ps=>simp only[aR];rw[uR h]
 |store t x y=>simp only[aR];rw[h x (by simp[Op.operands]),h y (by simp[Op.operands])]
 |makeSlice t x y=>simp only[aR];rw[h x (by simp[Op.operands]),h y (by simp[Op.operands])]
 |call cl =>
  simp only[aR]
  rw[gV.opnds (l:=cl.args.toList) (fun y hy=>h y (by simp[Op.operands,Call.operands];simp at hy;simp[hy]))]
 |insert t m k v =>
  simp only[aR,gK]
  rw[h m (by simp[Op.operands]),h k (by simp[Op.operands]),h v (by simp[Op.operands])]
 |mapUpdate t m k v =>
  simp only[aR,gK]
  rw[h m (by simp[Op.operands]),h k (by simp[Op.operands]),h v (by simp[Op.operands])]
 |mapEntry t m k =>
  simp only[aR,kB]
  rw[h m (by simp[Op.operands]),h k (by simp[Op.operands])]
 |entryStore t m s v =>
  simp only[aR,jP]
  rw[h m (by simp[Op.operands]),h s (by simp[Op.operands]),h v (by simp[Op.operands])]
 |makeMap t r=>cases r<;>simp only[aR]
 |range t x=>simp only[aR];rw[h x (by simp[Op.operands])]
 |next x b=>simp only[aR,T7];rw[h x (by simp[Op.operands])]
 |_=>rfl
theorem B4{ov:Orc}{e e':Env}{H:aG}{op:Op}(h:gV op.operands.toList e e'):bZ T ov ⟨e,H⟩ op=bZ T ov ⟨e',H⟩ op:=by
 unfold bZ
 simp only
 rw[lG h,PE h,kX h]
def iQ(o:Oper):Bool:=match o.op,o.guard,o.dst with|.alloc _,none,some _=>true|_,_,_=>false
def dD(o:Oper):Bool:=!g7 o.op&&!iQ o
def aS(ord:List Nat)(i:Nat):Nat:=ord.findIdx (fun j=>Nat.beq j i)
def opA(ops:List Oper)(p:Oper→Bool)(i:Nat):Bool:=match ops[i]? with|some o=>p o|none=>false
def anc(M:List Nat)(i j:Nat):Bool:=(M.getD i 0).testBit j
def aDI(ops:List Oper)(ord:List Nat)(i:Nat):Option Nat:=(ord.drop (aS ord i+1)).find? (opA ops dD)
def sO(ps:List Nat)(o:Oper):Bool:=match o.op with
 |.alloc _|.box _ _|.store _ _ _|.makeSlice _ _ _|.makeMap _ _|.insert _ _ _ _|.mapUpdate _ _ _ _|.mapEntry _ _ _|.entryStore _ _ _ _|.range _ _|.next _ _=>false
 |.call c=>match c.callee with
  |.builtin .append|.builtin .copy|.builtin .unsafeString=>false
  |.value (.func f)=>!(ps.contains f)
  |_=>true
 |_=>true
def pP(ops:List Oper)(o:Oper):Bool:=match o.op with
 |.store _ (.tmp x) _=>match Rel.writer ops 0 x with
  |some j=>opA ops iQ j&&(Rel.preds o).contains j
  |none=>false
 |_=>false
def agn(ops:List Oper)(o:Oper):Bool:=(o.looksAt ops.toArray).all fun t=>match Rel.writer ops 0 t with
 |none=>true
 |some w=>(Rel.preds o).contains w
def BW (ops : List Oper) (n : Nat) (ord : List Nat) (k : Nat) : Bool :=
  let M := Rel.masks ops []
  Rel.ancOk ops M && (Nat.beq ord.length ops.length && Nat.ble k ord.length) &&
  ((List.range ops.length).all fun p => match ord[p]? with | some i => Nat.blt i ops.length && Nat.beq (aS ord i) p | none => false) &&
  ((List.range ops.length).all fun i => Nat.blt (aS ord i) ops.length && (match ord[aS ord i]? with | some j => Nat.beq j i | none => false)) &&
  ((List.range ops.length).all fun i => match ops[i]? with
    | none => false
    | some o => (match o.dst with | none => true | some d => Nat.blt d n && Rel.writer ops 0 d == some i) &&
      ((o.looksAt ops.toArray).all fun t => match Rel.writer ops 0 t with | none => true | some j => (Rel.preds o).contains j || anc M j i) &&
      ((Rel.preds o).all fun p => Nat.blt (aS ord p) (aS ord i))) &&
  ((List.range ops.length).all fun i => !(opA ops dD i) || Nat.blt (aS ord i) k || (List.range ops.length).all fun j => !(opA ops dD j) || !(Nat.blt (aS ord j) (aS ord i)) || (anc M i j || (Nat.blt (aS ord j) k && (opA ops (pP ops) i || opA ops (agn ops) j)))) &&
  ((List.range ops.length).all fun i => !(opA ops iQ i) || (Nat.ble k (aS ord i) && match aDI ops ord i with
    | none => false
    | some u => anc M u i && (List.range ops.length).all fun j => match ops[j]? with
      | none => false
      | some o => !((Rel.preds o).contains i) || Nat.beq j u || anc M j u || !((o.looksAt ops.toArray).any fun t => Rel.writer ops 0 t == some i)))
def aEB(ps:List Nat)(ops:List Oper)(strict:Bool):List Nat×Nat :=
 let M:=Rel.masks ops []
 let idx:=List.range ops.length
 let mems:=idx.filter (opA ops dD)
 let cut:=fun(g:Nat→Nat→Bool)=>((List.range (mems.length+1)).find? fun t=>(List.range mems.length).all fun a=>Nat.blt a t||(List.range a).all fun b=>anc M (mems.getD a 0) (mems.getD b 0)||(Nat.blt b t&&g (mems.getD a 0) (mems.getD b 0))).getD 0
 let t0:=cut fun a _=>opA ops (pP ops) a
 let t:=bif (mems.take t0).all (opA ops (sO ps))then t0 else cut fun a b=>opA ops (pP ops) a||opA ops (agn ops) b
 let fixed:=mems.filter fun i=>!(opA ops (sO ps) i)
 let late:=bif !strict||(mems.take t).all (opA ops (sO ps))then mems.drop t else mems.filter fun i=>fixed.any fun j=>Nat.beq i j||anc M i j
 let isFree:=fun i=>bif opA ops dD i then !(late.any (Nat.beq i))else !(opA ops iQ i)&&!(idx.any fun j=>anc M i j&&(late.any (Nat.beq j)||opA ops iQ j))
 let fr:=idx.filter isFree
 let rest:=idx.filter fun i=>!(isFree i)&&!(opA ops iQ i)
 let mk:=fun(all:Bool)=>rest.foldl (fun(acc:List Nat×List Nat) i=>bif all||opA ops dD i then(acc.1++acc.2.filter (anc M i)++[i],acc.2.filter fun j=>!(anc M i j))else(acc.1++[i],acc.2)) (fr,idx.filter (opA ops iQ))
 let o1:=(mk false).1++(mk false).2
 let okO:=idx.all fun i=>match ops[i]? with|some o=>(Rel.preds o).all fun p=>Nat.blt (aS o1 p) (aS o1 i)|none=>true
 (bif okO then o1 else(mk true).1++(mk true).2,fr.length)
def u0(ps:List Nat)(ops:List Oper):List Nat×Nat :=
 let p:=aEB ps ops true
 bif BW ops 1000000000 p.1 p.2 then p else aEB ps ops false
def mP(ops:List Oper)(ord:List Nat)(k p:Nat):List Nat :=
 let M:=Rel.masks ops []
 let idx:=List.range ops.length
 let late:=idx.filter fun i=>opA ops dD i&&Nat.ble k (aS ord i)&&Nat.ble (aS ord i) p
 bif late.any fun i=>!(opA ops (pP ops) i)then idx.filter fun j=>opA ops dD j&&Nat.blt (aS ord j) k&&late.all fun u=>!(anc M u j)
 else []
end Go.Proofs.YtpdphobnchajbaaGreatDoor.Ev
namespace Go.Proofs.YtpdphobnchajbaaGreatDoor.Ev
open Go Go.RowKit
structure uD(ops:List Oper)(n:Nat)(ord:List Nat)(k:Nat):Prop where
 ancs:Rel.ancOk ops (Rel.masks ops [])=true
 len:ord.length=ops.length
 kle:k≤ops.length
 at_:∀ p,p<ops.length→∃ i,ord[p]?=some i∧i<ops.length∧aS ord i=p
 pos:∀ i,i<ops.length→aS ord i<ops.length∧ord[aS ord i]?=some i
 dst:∀(i:Nat) o d,ops[i]?=some o→o.dst=some d→d<n∧Rel.writer ops 0 d=some i
 looks:∀(i:Nat) o t j,ops[i]?=some o→t∈o.looksAt ops.toArray→Rel.writer ops 0 t=some j→j∈Rel.preds o∨anc (Rel.masks ops []) j i=true
 preds:∀(i:Nat) o p,ops[i]?=some o→p∈Rel.preds o→aS ord p<aS ord i
 mem:∀(i j:Nat) oi oj,ops[i]?=some oi→ops[j]?=some oj→dD oi=true→dD oj=true→k≤aS ord i→aS ord j<aS ord i→anc (Rel.masks ops []) i j=true∨(aS ord j<k∧(pP ops oi=true∨agn ops oj=true))
 al:∀(i:Nat) o,ops[i]?=some o→iQ o=true→k≤aS ord i∧∃ u ou,ops[u]?=some ou∧dD ou=true∧aS ord i<aS ord u∧anc (Rel.masks ops []) u i=true ∧
  (∀(j:Nat) oj,ops[j]?=some oj→dD oj=true→aS ord i<aS ord j→aS ord u≤aS ord j) ∧
  (∀(j:Nat) oj t,ops[j]?=some oj→i∈Rel.preds oj→t∈oj.looksAt ops.toArray→Rel.writer ops 0 t=some i→j=u∨anc (Rel.masks ops []) j u=true)
theorem xD{a b:Nat}:Nat.beq a b=true↔a=b:=⟨Nat.eq_of_beq_eq_true,fun h=>by subst h;exact Nat.beq_refl a⟩
theorem aEm{a b:Nat}:Nat.ble a b=true↔a≤b:=⟨Nat.le_of_ble_eq_true,Nat.ble_eq_true_of_le⟩
theorem D0{a b:Nat}:Nat.blt a b=true↔a<b:=aEm
theorem PU{l:List Nat}{p:Nat→Bool}:∀{m:Nat} {u:Nat},(l.drop m).find? p=some u→∃ q,m≤q∧l[q]?=some u∧p u=true∧∀ r,m≤r→r<q→∀ v,l[r]?=some v→p v=false:=by
 intro m u h
 obtain⟨h1,as,bs,h2,h3⟩:=List.find?_eq_some_iff_append.1 h
 refine⟨m+as.length,by omega,?_,h1,fun r hr1 hr2 v hv=>?_⟩
 ·have:(l.drop m)[as.length]?=some u:=by rw[h2];simp
  rwa [List.getElem?_drop]at this
 ·have:(l.drop m)[r-m]?=some v:=by rw[List.getElem?_drop,show m+(r-m)=r by omega];exact hv
  rw[h2,List.getElem?_append_left (by omega)]at this
  simpa using h3 v (List.mem_of_getElem? this)
theorem E0{ops:List Oper}{n k:Nat}{ord:List Nat}(h:BW ops n ord k=true):uD ops n ord k:=by
 unfold BW at h
 simp only[Bool.and_eq_true,xD,aEm]at h
 obtain⟨⟨⟨⟨⟨⟨h1,h2,h3⟩,h4⟩,h5⟩,h6⟩,h7⟩,h8⟩:=h
 have at_:∀ p,p<ops.length→∃ i,ord[p]?=some i∧i<ops.length∧aS ord i=p:=by
  intro p hp
  have:=List.all_eq_true.1 h4 p (List.mem_range.2 hp)
  cases ho:ord[p]? with
  |none=>simp[ho]at this
  |some i =>
   simp only[ho,Bool.and_eq_true,xD,D0]at this
   exact⟨i,rfl,this⟩
 have pos:∀ i,i<ops.length→aS ord i<ops.length∧ord[aS ord i]?=some i:=by
  intro i hi
  have:=List.all_eq_true.1 h5 i (List.mem_range.2 hi)
  simp only[Bool.and_eq_true,D0]at this
  obtain⟨k1,k2⟩:=this
  refine⟨k1,?_⟩
  cases ho:ord[aS ord i]? with
  |none=>simp[ho]at k2
  |some j =>
   simp only[ho,xD]at k2
   rw[k2]
 have each:∀(i:Nat) o,ops[i]?=some o→_:=fun i o ho=>by
  have:=List.all_eq_true.1 h6 i (List.mem_range.2 (Rel.lt_of_get ho))
  simp only[ho,Bool.and_eq_true]at this
  exact this
 refine⟨h1,h2,h2▸h3,at_,pos,fun i o d ho hd=>?_,fun i o t j ho ht hw=>?_,fun i o p ho hp=>?_,fun i j oi oj hi hj mi mj hk hlt=>?_,fun i o ho ha=>?_⟩
 ·have:=(each i o ho).1.1
  simp only[hd,Bool.and_eq_true,D0,beq_iff_eq]at this
  exact this
 ·have:=List.all_eq_true.1 (each i o ho).1.2 t ht
  simp only[hw,Bool.or_eq_true]at this
  rcases this with h'|h'
  ·left
   simpa using h'
  ·exact .inr h'
 ·have:=List.all_eq_true.1 (each i o ho).2 p hp
  exact D0.1 this
 ·have:=List.all_eq_true.1 h7 i (List.mem_range.2 (Rel.lt_of_get hi))
  simp only[opA,hi,mi,Bool.not_true,Bool.false_or,Bool.or_eq_true,D0]at this
  rcases this with h'|h'
  ·omega
  ·have:=List.all_eq_true.1 h' j (List.mem_range.2 (Rel.lt_of_get hj))
   simp only[hj,mj,Bool.not_true,Bool.false_or,Bool.or_eq_true,Bool.not_eq_true']at this
   rcases this with h''|h''
   ·rw[D0.2 hlt]at h''
    cases h''
   ·simp only[Bool.or_eq_true,Bool.and_eq_true,D0]at h''
    exact h''
 ·have:=List.all_eq_true.1 h8 i (List.mem_range.2 (Rel.lt_of_get ho))
  simp only[opA,ho,ha,Bool.not_true,Bool.false_or,Bool.and_eq_true,aEm]at this
  obtain⟨hk,hu⟩:=this
  refine⟨hk,?_⟩
  cases hus:aDI ops ord i with
  |none=>simp[hus]at hu
  |some u =>
   simp only[hus,Bool.and_eq_true]at hu
   obtain⟨hanc,hall⟩:=hu
   obtain⟨q,hq1,hq2,hq3,hq4⟩:=PU hus
   have hql:q<ops.length:=by
    rw[← h2]
    exact Rel.lt_of_get hq2
   obtain⟨u',hu1,hu2,hu3⟩:=at_ q hql
   rw[hq2]at hu1
   obtain rfl:=Option.some.inj hu1
   have hou:ops[u]?=some ops[u]:=List.getElem?_eq_getElem hu2
   have hmu:dD ops[u]=true:=by simpa[opA,hou]using hq3
   refine⟨u,ops[u],hou,hmu,by omega,hanc,fun j oj hj mj hlt=>?_,fun j oj t hj hp ht hw=>?_⟩
   ·rcases Nat.lt_or_ge (aS ord j) (aS ord u)with h'|h'
    ·exfalso
     obtain⟨k1,k2⟩:=pos j (Rel.lt_of_get hj)
     have:=hq4 (aS ord j) (by omega) (by omega) j k2
     simp[opA,hj,mj]at this
    ·exact h'
   ·have:=List.all_eq_true.1 hall j (List.mem_range.2 (Rel.lt_of_get hj))
    simp only[hj,Bool.or_eq_true,Bool.not_eq_true',xD]at this
    rcases this with((h'|h')|h')|h'
    ·rw[List.contains_iff_mem.2 hp]at h'
     cases h'
    ·exact .inl h'
    ·exact .inr h'
    ·exfalso
     have:=List.any_eq_false.1 h' t ht
     simp[hw]at this
theorem uD.anc_pos{ops:List Oper}{n k:Nat}{ord:List Nat}(h:uD ops n ord k):∀(i j:Nat),i<ops.length→anc (Rel.masks ops []) i j=true→j<i∧aS ord j<aS ord i:=by
 intro i
 induction i using Nat.strongRecOn with
 |ind i ih =>
  intro j hi hb
  have ho:ops[i]?=some ops[i]:=List.getElem?_eq_getElem hi
  obtain⟨h1,h2⟩:=Rel.ancOk_at h.ancs ho
  obtain⟨hj,p,hp,hpj⟩:=h2 j hb
  refine⟨hj,?_⟩
  have hpp:=h.preds i _ p ho hp
  rcases hpj with rfl|hpj
  ·exact hpp
  ·have:=(ih p (h1 p hp) j (by have:=h1 p hp;omega) hpj).2
   omega
end Go.Proofs.YtpdphobnchajbaaGreatDoor.Ev
namespace Go.Proofs.YtpdphobnchajbaaGreatDoor.Ev
open Go Go.RowKit
variable{P:Program}{T:Tb}
def nN(T:Tb)(ov:Orc)(st:St)(m:MOp):Option (A×aG) :=
 match wants st.env m.guard with
 |none=>none
 |some false=>some (.v undef,st.H)
 |some true=>bZ T ov st m.op
structure uG(T:Tb)(q:eI)(ov:Orc)(k:Nat)(ms:List MOp)(st:St)(xs:List A)(Hs:Nat→aG):Prop where
 len:xs.length=ms.length
 low:∀ p,p≤k→Hs p=st.H
 free:∀(p:Nat) m,p<k→ms[p]?=some m→∃ x,xs[p]?=some x∧jY T q ⟨dA st.env (ms.take p) (xs.take p),st.H⟩ m=some x
 tail:∀(p:Nat) m,k≤p→ms[p]?=some m→∃ x,xs[p]?=some x∧nN T ov ⟨dA st.env (ms.take p) (xs.take p),Hs p⟩ m=some (x,Hs (p+1))
theorem rO{q:eI}{ov:Orc}:∀(ms:List MOp) (st st':St),bM T q ov 0 ms st=some st' →
  ∃(xs:List A) (Hs:Nat→aG),xs.length=ms.length∧Hs 0=st.H∧st'=⟨dA st.env ms xs,Hs ms.length⟩∧∀(p:Nat) m,ms[p]?=some m→∃ x,xs[p]?=some x∧nN T ov ⟨dA st.env (ms.take p) (xs.take p),Hs p⟩ m=some (x,Hs (p+1))
 |[],st,st',h=>by
  simp[bM]at h
  subst h
  exact⟨[],fun _=>st.H,rfl,rfl,rfl,fun p m h=>by simp at h⟩
 |m::ms,st,st',h=>by
  have hstep:∃ x H',nN T ov st m=some (x,H')∧bM T q ov 0 ms ⟨put st.env m.dst x,H'⟩=some st':=by
   unfold bM at h
   unfold nN
   cases hw:wants st.env m.guard with
   |none=>simp[hw]at h
   |some b =>
    cases b with
    |false =>
     simp only[hw]at h
     exact⟨_,_,rfl,h⟩
    |true =>
     simp only[hw]at h
     cases hf:bZ T ov st m.op with
     |none=>simp[hf]at h
     |some x =>
      obtain⟨x,H'⟩:=x
      simp only[hf]at h
      exact⟨x,H',rfl,h⟩
  obtain⟨x,H',h1,h2⟩:=hstep
  obtain⟨xs,Hs,h3,h4,h5,h6⟩:=rO ms _ st' h2
  refine⟨x::xs,fun p=>match p with|0=>st.H|p+1=>Hs p,by simp[h3],rfl,by simpa[dA]using h5,fun p m' hm=>?_⟩
  cases p with
  |zero =>
   simp at hm
   subst hm
   refine⟨x,rfl,?_⟩
   simp only[List.take_zero,dA]
   rw[h1,h4]
  |succ p =>
   obtain⟨z,h7,h8⟩:=h6 p m' (by simpa using hm)
   exact⟨z,by simpa using h7,by simpa[dA]using h8⟩
theorem qB:∀(ms ms':List MOp) (xs ys:List A) (e:Env),xs.length=ms.length→dA e (ms++ms') (xs++ys)=dA (dA e ms xs) ms' ys
 |[],ms',[],ys,e,_=>rfl
 |[],_,_::_,_,_,h=>by simp at h
 |_::_,_,[],_,_,h=>by simp at h
 |m::ms,ms',x::xs,ys,e,h=>by
  simp only[List.cons_append,dA]
  exact qB ms ms' xs ys _ (by simpa using h)
theorem AU{q:eI}{ov:Orc}{k:Nat}{ms:List MOp}{st:St}{x1 x2:List A}{Hs:Nat→aG}(hk:k≤ms.length)(h1:x1.length=k)
  (h3:∀(i:Nat) m,i<k→ms[i]?=some m→∃ x,x1[i]?=some x∧jY T q ⟨dA st.env (ms.take i) (x1.take i),st.H⟩ m=some x)
  (h4:x2.length=(ms.drop k).length) (h5:Hs 0=st.H)
  (h7:∀(p:Nat) m,(ms.drop k)[p]?=some m→∃ x,x2[p]?=some x∧nN T ov ⟨dA (dA st.env (ms.take k) x1) ((ms.drop k).take p) (x2.take p),Hs p⟩ m=some (x,Hs (p+1))) :
  uG T q ov k ms st (x1++x2) (fun p=>if p≤k then st.H else Hs (p-k)) ∧
  (∀ p,k≤p→dA st.env (ms.take p) ((x1++x2).take p)=dA (dA st.env (ms.take k) x1) ((ms.drop k).take (p-k)) (x2.take (p-k))) ∧
  (⟨dA (dA st.env (ms.take k) x1) (ms.drop k) x2,Hs (ms.drop k).length⟩:St)=⟨dA st.env ms (x1++x2),if ms.length≤k then st.H else Hs (ms.length-k)⟩:=by
 have hl:x1.length=(ms.take k).length:=by rw[h1,List.length_take];omega
 have hl2:x2.length=ms.length-k:=by rw[h4,List.length_drop]
 have tk:∀ p,k≤p→ms.take p=ms.take k++(ms.drop k).take (p-k):=fun p hp=>by
  have:p=k+(p-k):=by omega
  rw[this,List.take_add]
  simp
 have tx:∀ p,k≤p→(x1++x2).take p=x1++x2.take (p-k):=fun p hp=>by
  rw[List.take_append,h1,List.take_of_length_le (by omega)]
 have tp:∀ p,k≤p→dA st.env (ms.take p) ((x1++x2).take p)=dA (dA st.env (ms.take k) x1) ((ms.drop k).take (p-k)) (x2.take (p-k)):=fun p hp=>by
  rw[tk p hp,tx p hp,qB _ _ _ _ _ hl]
 refine⟨⟨by simp;omega,fun p hp=>if_pos hp,fun p m hp hm=>?_,fun p m hp hm=>?_⟩,tp,?_⟩
 ·obtain⟨x,k1,k2⟩:=h3 p m hp hm
  refine⟨x,by rw[List.getElem?_append_left (by omega)];exact k1,?_⟩
  rw[List.take_append_of_le_length (by omega)]
  exact k2
 ·obtain⟨x,k1,k2⟩:=h7 (p-k) m (by rw[List.getElem?_drop,show k+(p-k)=p by omega];exact hm)
  refine⟨x,by rw[List.getElem?_append_right (by omega),h1];exact k1,?_⟩
  rw[tp p hp]
  have e1:(if p≤k then st.H else Hs (p-k))=Hs (p-k):=by
   split
   ·have:p-k=0:=by omega
    rw[this,h5]
   ·rfl
  have e2:(if p+1≤k then st.H else Hs (p+1-k))=Hs (p-k+1):=by
   rw[if_neg (by omega),show p+1-k=p-k+1 by omega]
  rw[e1,e2]
  exact k2
 ·congr 1
  ·have e:=qB (ms.take k) (ms.drop k) x1 x2 st.env hl
   rw[List.take_append_drop]at e
   exact e.symm
  ·simp only[List.length_drop]
   split
   ·have:ms.length-k=0:=by omega
    rw[this,h5]
   ·rfl
theorem aCm{q:eI}{ov:Orc}{k:Nat}{ms:List MOp}{st st':St}(hk:k≤ms.length)(h:bM T q ov k ms st=some st') :
  ∃(xs:List A) (Hs:Nat→aG),uG T q ov k ms st xs Hs∧st'=⟨dA st.env ms xs,Hs ms.length⟩:=by
 obtain⟨x1,h1,h2,h3⟩:=oB ms k st st' hk h
 obtain⟨x2,Hs,h4,h5,h6,h7⟩:=rO _ _ _ h2
 obtain⟨k1,-,k3⟩:=AU hk h1 h3 h4 h5 h7
 exact⟨_,_,k1,by rw[h6];exact k3⟩
def B3(A:Nat→List MOp):Nat→List MOp→M
 |_,[]=>.skip
 |p,m::ms=>.seq (.ops [m]) (.seq (.again (A p)) (B3 A (p+1) ms))
theorem z6{q:eI}{ov:Orc}{B:Nat→List MOp}:∀(ms:List MOp) (N p:Nat) (st:St) (ex:Ex) (st':St),bH T q ov N (B3 B p ms) st=some (ex,st') →
  ex=.go∧∃(xs:List A) (Hs:Nat→aG),xs.length=ms.length∧Hs 0=st.H∧st'=⟨dA st.env ms xs,Hs ms.length⟩∧(∀(i:Nat) m,ms[i]?=some m→∃ x,xs[i]?=some x∧nN T ov ⟨dA st.env (ms.take i) (xs.take i),Hs i⟩ m=some (x,Hs (i+1))) ∧
   ∀ i,i<ms.length→againAll T ⟨dA st.env (ms.take (i+1)) (xs.take (i+1)),Hs (i+1)⟩ (B (p+i))=true
 |[],N,p,st,ex,st',h=>by
  cases N with
  |zero=>simp[bH]at h
  |succ N =>
   simp only[B3,bH,Option.some.injEq,Prod.mk.injEq]at h
   obtain⟨rfl,rfl⟩:=h
   exact⟨rfl,[],fun _=>st.H,rfl,rfl,rfl,fun i m h=>by simp at h,fun i h=>by simp at h⟩
 |m::ms,N,p,st,ex,st',h=>by
  cases N with
  |zero=>simp[bH]at h
  |succ N =>
   simp only[B3,bH]at h
   cases N with
   |zero=>simp[bH]at h
   |succ N =>
    cases h1:bM T q ov 0 [m] st with
    |none=>simp[bH,h1]at h
    |some s1 =>
     simp only[bH,h1]at h
     obtain⟨xs1,Hs1,j1,j2,j3,j4⟩:=rO [m] st s1 h1
     cases N with
     |zero=>simp[bH]at h
     |succ N =>
      cases h2:againAll T s1 (B p)with
      |false=>simp[bH,h2]at h
      |true =>
       simp only[bH,h2,cond_true]at h
       obtain⟨k1,xs,Hs,k2,k3,k4,k5,k6⟩:=z6 ms (N+1) (p+1) s1 ex st' h
       obtain⟨x,j5,j6⟩:=j4 0 m rfl
       have hx:xs1=[x]:=by
        match xs1,j1,j5 with
        |[y],_,j5=>simpa using j5
       subst hx
       simp only[List.take_zero,dA,j2]at j6
       simp only[dA,List.length_cons,List.length_nil]at j3
       subst j3
       refine⟨k1,x::xs,fun i=>match i with|0=>st.H|i+1=>Hs i,by simp[k2],rfl,by simpa[dA]using k4,fun i m' hm=>?_,fun i hi=>?_⟩
       ·cases i with
        |zero =>
         simp only[List.getElem?_cons_zero,Option.some.injEq]at hm
         subst hm
         refine⟨x,rfl,?_⟩
         simp only[List.take_zero,dA]
         rw[j6,k3]
        |succ i =>
         obtain⟨z,h7,h8⟩:=k5 i m' (by simpa using hm)
         exact⟨z,by simpa using h7,by simpa[dA]using h8⟩
       ·cases i with
        |zero =>
         simp only[List.take_succ_cons,List.take_zero,dA,Nat.add_zero]
         rw[k3]
         exact h2
        |succ i =>
         have:=k6 i (by simpa using hi)
         simp only[List.take_succ_cons,dA]
         rw[show p+(i+1)=p+1+i by omega]
         exact this
theorem QE{q:eI}{ov:Orc}{B:Nat→List MOp}{N k:Nat}{ms:List MOp}{st s1 st':St}{ex:Ex}(hk:k≤ms.length)(h:bM T q ov k (ms.take k) st=some s1)(h':bH T q ov N (B3 B k (ms.drop k)) s1=some (ex,st')) :
  ex=.go∧∃(xs:List A) (Hs:Nat→aG),uG T q ov k ms st xs Hs∧st'=⟨dA st.env ms xs,Hs ms.length⟩∧∀ p,k≤p→p<ms.length→againAll T ⟨dA st.env (ms.take (p+1)) (xs.take (p+1)),Hs (p+1)⟩ (B p)=true:=by
 obtain⟨x1,h1,h2,h3⟩:=oB (ms.take k) k st s1 (by rw[List.length_take];omega) h
 have hdk:(ms.take k).drop k=[]:=List.drop_eq_nil_of_le (by rw[List.length_take];omega)
 rw[hdk]at h2
 simp only[bM,Option.some.injEq]at h2
 rw[List.take_take,Nat.min_self]at h2
 subst h2
 obtain⟨k0,x2,Hs,h4,h5,h6,h7,h8⟩:=z6 _ _ _ _ _ _ h'
 have h3':∀(i:Nat) m,i<k→ms[i]?=some m→∃ x,x1[i]?=some x∧jY T q ⟨dA st.env (ms.take i) (x1.take i),st.H⟩ m=some x:=fun i m hi hm=>by
  have:=h3 i m hi (by rw[List.getElem?_take,if_pos hi];exact hm)
  rw[List.take_take,show min i k=i by omega]at this
  exact this
 obtain⟨k1,k2,k3⟩:=AU hk h1 h3' h4 h5 h7
 refine⟨k0,_,_,k1,by rw[h6];exact k3,fun p hp hpl=>?_⟩
 rw[k2 (p+1) (by omega)]
 have:=h8 (p-k) (by rw[List.length_drop];omega)
 rw[if_neg (by omega),show p+1-k=p-k+1 by omega]
 rw[show k+(p-k)=p by omega]at this
 exact this
def jF(n:Nat)(ops:List Oper):List Nat→Option (List MOp)
 |[]=>some []
 |i::l=>match ops[i]? with
  |none=>none
  |some o=>match sS n ops o,jF n ops l with
   |some m,some ms=>some (m::ms)
   |_,_=>none
theorem fG{n:Nat}{ops:List Oper}:∀{l:List Nat} {ms:List MOp},jF n ops l=some ms→ms.length=l.length∧∀(p i:Nat),l[p]?=some i→∃ o m,ops[i]?=some o∧ms[p]?=some m∧F0 n ops o m
 |[],ms,h=>by
  simp[jF]at h
  subst h
  exact⟨rfl,fun i o h=>by simp at h⟩
 |i::l,ms,h=>by
  unfold jF at h
  cases h0:ops[i]? with
  |none=>simp[h0]at h
  |some o =>
   cases h1:sS n ops o with
   |none=>simp[h0,h1]at h
   |some m =>
    cases h2:jF n ops l with
    |none=>simp[h0,h1,h2]at h
    |some ms' =>
     simp only[h0,h1,h2,Option.some.injEq]at h
     subst h
     obtain⟨h3,h4⟩:=fG h2
     refine⟨by simp[h3],fun p i' hp=>?_⟩
     cases p with
     |zero =>
      simp at hp
      subst hp
      exact⟨o,m,h0,rfl,zI h1⟩
     |succ p=>simpa using h4 p i' (by simpa using hp)
section
variable{ops:List Oper}{n k:Nat}{ord:List Nat}{ms:List MOp}{xs:List A}{e:Env}
theorem uD.inj(h:uD ops n ord k){i j:Nat}(hi:i<ops.length)(hj:j<ops.length)(he:aS ord i=aS ord j):i=j:=by
 have h1:=(h.pos i hi).2
 have h2:=(h.pos j hj).2
 rw[he]at h1
 exact Option.some.inj (h1.symm.trans h2)
theorem kJ(h:uD ops n ord k)(hc:jF n ops ord=some ms){t w p:Nat}{x:A}(hw:Rel.writer ops 0 t=some w)(hp:aS ord w<p)(hx:xs[aS ord w]?=some x):cI (dA e (ms.take p) (xs.take p)) t=some x:=by
 obtain⟨hml,hmg⟩:=fG hc
 obtain⟨-,o,ho,hd⟩:=Rel.writer_some hw
 have ho':ops[w]?=some o:=by simpa using ho
 have hwl:=Rel.lt_of_get ho'
 obtain⟨o1,m,ho1,hm,hcm⟩:=hmg _ _ (h.pos w hwl).2
 obtain rfl:=Option.some.inj (ho'.symm.trans ho1)
 refine oE _ _ e (aS ord w) m x (by rw[List.getElem?_take_of_lt hp];exact hm) (by rw[List.getElem?_take_of_lt hp];exact hx) (by rw[hcm.dst];exact hd) fun i' m' hi' hd'=>?_
 have hlt:i'<p:=by
  have:=(List.getElem?_eq_some_iff.1 hi').1
  simp at this
  omega
 rw[List.getElem?_take_of_lt hlt]at hi'
 have hil:i'<ops.length:=by
  have:=Rel.lt_of_get hi'
  rw[hml,h.len]at this
  exact this
 obtain⟨j,hj1,hj2,hj3⟩:=h.at_ i' hil
 obtain⟨o2,m2,ho2,hm2,hcm2⟩:=hmg _ _ hj1
 obtain rfl:=Option.some.inj (hi'.symm.trans hm2)
 rw[hcm2.dst]at hd'
 have:=(h.dst j o2 t ho2 hd').2
 rw[hw]at this
 obtain rfl:=Option.some.inj this
 exact hj3.symm
theorem oW(h:uD ops n ord k)(hc:jF n ops ord=some ms){t p:Nat}(hw:∀ w,Rel.writer ops 0 t=some w→p≤aS ord w):cI (dA e (ms.take p) (xs.take p)) t=cI e t:=by
 obtain⟨hml,hmg⟩:=fG hc
 refine kV _ _ e fun m' hm' hd'=>?_
 obtain⟨i',hi'⟩:=List.mem_iff_getElem?.1 hm'
 have hlt:i'<p:=by
  have:=(List.getElem?_eq_some_iff.1 hi').1
  simp at this
  omega
 rw[List.getElem?_take_of_lt hlt]at hi'
 have hil:i'<ops.length:=by
  have:=Rel.lt_of_get hi'
  rw[hml,h.len]at this
  exact this
 obtain⟨j,hj1,hj2,hj3⟩:=h.at_ i' hil
 obtain⟨o2,m2,ho2,hm2,hcm2⟩:=hmg _ _ hj1
 obtain rfl:=Option.some.inj (hi'.symm.trans hm2)
 rw[hcm2.dst]at hd'
 have:=hw j (h.dst j o2 t ho2 hd').2
 omega
end
end Go.Proofs.YtpdphobnchajbaaGreatDoor.Ev
namespace Go.Proofs.YtpdphobnchajbaaGreatDoor.Ev
open Go Go.RowKit
variable{P:Program}{T:Tb}
structure pD(T:Tb)(b0:Nat)(c:Cfg)(t:TypeId)(g:Nat):Prop where
 new:b0≤g
 own:c.own g
 off:¬ img c.ρ c.H g
 lies:∃ ty cur,T t=some ty∧c.w.heap[g]?=some (.cells cur t (0,0))∧cur.toList=ty.zero
theorem pD.lt{b0:Nat}{c:Cfg}{t:TypeId}{g:Nat}(h:pD T b0 c t g):g<c.w.heap.size:=by
 obtain⟨ty,cur,-,h1,-⟩:=h.lies
 exact(Array.getElem?_eq_some_iff.1 h1).1
theorem pD.to{b0:Nat}{c c':Cfg}{t:TypeId}{g:Nat}(h:pD T b0 c t g)(ht:To c c'):pD T b0 c' t g:=by
 obtain⟨ty,cur,h0,h1,h2⟩:=h.lies
 exact⟨h.new,((ht.own g h.lt).2 h.own).resolve_right h.off,fun hi=>h.off (ht.img g h.lt hi),ty,cur,h0,(ht.same g h.lt h.off).trans h1,h2⟩
theorem ZK(hT:TOk P T){c:Cfg}(ok:Ok T.gl c){a:Act}{o:Oper}{t:TypeId}{ty:Ty}(hty:T t=some ty)(ho:o.op=.alloc t) :
  ∃ c':Cfg,(execOp a.eval o).run P c.w=.ok (.value (.pointer (some ⟨c.w.heap.size,0,none⟩))) c'.w∧c'.H=c.H∧c'.ρ=c.ρ∧To c c'∧Ok T.gl c'∧pD T c.w.heap.size c' t c.w.heap.size:=by
 obtain⟨z,hz,hzc,-⟩:=(hT.facts hty).zero c.w
 have hG:Grow c.w (c.w.alloc (.cells z.cells t)):=(Below.refl _ _).alloc (Nat.le_refl _) _
 have hheap:(c.w.alloc (.cells z.cells t)).heap=c.w.heap.push (.cells z.cells t):=rfl
 obtain⟨hto0,ok0⟩:=ok.grow hG
 have hto:To c ⟨c.ρ,fun g=>c.own g∨g=c.w.heap.size,c.H,c.w.alloc (.cells z.cells t)⟩ :=
  ⟨hto0.pre,hto0.size,hto0.os,hto0.tape,hto0.output,hto0.img,hto0.same,hto0.shape,hto0.maps,hto0.kinds,fun g hg=>⟨fun h=>h.elim id fun h=>by omega,fun h=>.inl (.inl h)⟩⟩
 refine⟨⟨c.ρ,fun g=>c.own g∨g=c.w.heap.size,c.H,c.w.alloc (.cells z.cells t)⟩,?_,rfl,rfl,hto,⟨ok.len,?_,fun g hg=>.inl (ok.img g hg),fun b e cs wh g hb hg=>?_,ok.inj,hto.glob ok⟩,Nat.le_refl _,.inr rfl,fun hi=>?_,ty,z.cells,hty,?_,hzc⟩
 ·have hx:execOp a.eval o=(do pure (.value (← Instr.alloc t true (.tuple #[]))):Sem Next):=by simp only[execOp,ho]
  rw[hx]
  simp[Instr.alloc,hz,newVar,newRow]
 ·rintro g (h|h)
  ·exact Nat.lt_of_lt_of_le (ok.lt g h) hto.size
  ·simp[hheap,h]
 ·exact(ok.blk b e cs wh g hb hg).keep (hto.keeps ok) (hG.block g (ok.lt_blk hb hg))
 ·have:=ok.lt _ (ok.img _ hi)
  omega
 ·simp[hheap]
theorem YZ{c:Cfg}(ok:Ok T.gl c){b0 g:Nat}{t:TypeId}{ty:Ty}(he:pD T b0 c t g)(hty:T t=some ty) :
  ∃ c':Cfg,c'.w=c.w∧c'.own=c.own∧c'.H=c.H++[some ⟨t,ty.zero.map .v,true⟩]∧c'.ρ=c.ρ++[g]∧Ok T.gl c'∧jN c.ρ c.own c.w c'.ρ c'.own c'.w∧c'.ρ[c.H.length]?=some g∧(∀ g',img c'.ρ c'.H g'→img c.ρ c.H g'∨g'=g) ∧
   ∀ c0:Cfg,c0.w.heap.size≤g→To c0 c→To c0 c':=by
 obtain⟨ty',cur,h0,h1,h2⟩:=he.lies
 rw[hty]at h0
 obtain rfl:=Option.some.inj h0
 let c':Cfg:=⟨c.ρ++[g],c.own,c.H++[some ⟨t,ty.zero.map .v,true⟩],c.w⟩
 have hlen:=ok.len
 have live:∀(b:Nat) (k:Blk) (g1:Nat),c'.H[b]?=some (some k)→c'.ρ[b]?=some g1→(c.H[b]?=some (some k)∧c.ρ[b]?=some g1)∨(b=c.H.length∧k=⟨t,ty.zero.map .v,true⟩∧g1=g):=by
  intro b k g1 hb hg
  rcases Nat.lt_or_ge b c.H.length with hlt|hge
  ·left
   exact⟨by simpa[c',List.getElem?_append_left hlt]using hb,by simpa[c',List.getElem?_append_left (by omega:b<c.ρ.length)]using hg⟩
  ·right
   have hb':b=c.H.length:=by
    have:=(List.getElem?_eq_some_iff.1 hb).1
    simp[c']at this
    omega
   subst hb'
   refine⟨rfl,?_,?_⟩
   ·simpa[c',eq_comm]using hb
   ·simp only[c']at hg
    rw[← hlen,List.getElem?_append_right (Nat.le_refl _)]at hg
    simpa[eq_comm]using hg
 have hk:jN c.ρ c.own c.w c'.ρ c'.own c'.w:=⟨List.prefix_append _ _,Nat.le_refl _,fun _ _ h=>⟨h,rfl⟩,fun _ cur _ fz h=>⟨cur,fz,h,rfl⟩,fun _ es n h=>⟨es,n,h⟩,fun _ o h _=>⟨o,h,rfl⟩⟩
 have himg:∀ g',img c'.ρ c'.H g'→img c.ρ c.H g'∨g'=g:=by
  rintro g' ⟨b,k,hb,hbg⟩
  rcases live b k g' hb hbg with⟨h3,h4⟩|⟨-,-,h3⟩
  ·exact .inl ⟨b,k,h3,h4⟩
  ·exact .inr h3
 refine⟨c',rfl,rfl,rfl,rfl,⟨by simp[c',hlen],ok.lt,fun g' hg'=>?_,fun b e1 cs1 wh1 g1 hb hg=>?_,fun b b' k k' g1 hb hb' hg hg'=>?_,ok.glob⟩,hk,?_,himg,fun c0 hs hto=>?_⟩
 ·rcases himg g' hg' with h|h
  ·exact ok.img g' h
  ·subst h;exact he.own
 ·rcases live b _ g1 hb hg with⟨h3,h4⟩|⟨-,h3,h4⟩
  ·exact(ok.blk b e1 cs1 wh1 g1 h3 h4).keep hk rfl
  ·simp only[Blk.mk.injEq]at h3
   obtain⟨rfl,rfl,rfl⟩:=h3
   subst h4
   exact .inl ⟨cur,ty.zero,h1,RL.exact _,by rw[h2];exact List.prefix_rfl,fun _=>by rw[← Array.length_toList,h2];simp⟩
 ·rcases live b k g1 hb hg with⟨h3,h4⟩|⟨h3,-,h4⟩<;>rcases live b' k' g1 hb' hg' with⟨h5,h6⟩|⟨h5,-,h6⟩
  ·exact ok.inj b b' k k' g1 h3 h5 h4 h6
  ·subst h6
   exact absurd ⟨b,k,h3,h4⟩ he.off
  ·subst h4
   exact absurd ⟨b',k',h5,h6⟩ he.off
  ·omega
 ·simp only[c']
  rw[← hlen]
  simp
 ·exact⟨hto.pre.trans (List.prefix_append _ _),hto.size,hto.os,hto.tape,hto.output,fun g1 hg1 hi=>(himg g1 hi).elim (hto.img g1 hg1) (fun h=>by omega),hto.same,hto.shape,hto.maps,hto.kinds,hto.own⟩
end Go.Proofs.YtpdphobnchajbaaGreatDoor.Ev
namespace Go.Proofs.YtpdphobnchajbaaGreatDoor.Ev
open Go Go.RowKit
variable{P:Program}{T:Tb}
structure kA(T:Tb)(ops:List Oper)(ord:List Nat)(k:Nat)(xs:List A)(Hs:Nat→aG)(a:Act)(c0:Cfg)(listed:Array Bool)(a':Act)(c:Cfg)(m:Nat):Prop where
 to:To c0 c
 ok:Ok T.gl c
 size:a'.tmps.size=a.tmps.size
 defers:a'.defers=a.defers
 lsize:listed.size=ops.length
 closed:Rel.Closed ops listed
 heap:c.H=Hs m
 km:k≤m
 ml:m≤ops.length
 mem:∀(i:Nat) o,ops[i]?=some o→dD o=true→k≤aS ord i→(listed.getD i true=true↔aS ord i<m)
 al:∀(i:Nat) o,ops[i]?=some o→iQ o=true→aS ord i<m→listed.getD i true=true
 vals:∀(i:Nat) o d,ops[i]?=some o→listed.getD i true=true→o.dst=some d→(iQ o=true→aS ord i<m)→∃ x,xs[aS ord i]?=some x∧R c.ρ c.own c.w x (a'.tmps.getD d undef)
 early:∀(i:Nat) o d t,ops[i]?=some o→listed.getD i true=true→o.dst=some d→iQ o=true→o.op=.alloc t→m≤aS ord i→∃ g,a'.tmps.getD d undef=.pointer (some ⟨g,0,none⟩)∧pD T c0.w.heap.size c t g
 apart:∀(i j:Nat) o o' d d',ops[i]?=some o→ops[j]?=some o'→listed.getD i true=true→listed.getD j true=true→o.dst=some d→o'.dst=some d'→iQ o=true→iQ o'=true→m≤aS ord i→m≤aS ord j→a'.tmps.getD d undef=a'.tmps.getD d' undef→i=j
 rest:∀ t,(∀(j:Nat) o,ops[j]?=some o→o.dst=some t→listed.getD j true=false)→a'.tmps.getD t undef=a.tmps.getD t undef
theorem kI{o:Oper}(h:iQ o=true):∃ t d,o.op=.alloc t∧o.guard=none∧o.dst=some d:=by
 unfold iQ at h
 split at h
 ·rename_i t d h1 h2 h3
  exact⟨t,d,h1,h2,h3⟩
 ·cases h
theorem sD{o:Oper}(h:iQ o=true):dD o=false:=by simp[dD,h]
theorem aG7{o:Oper}(h:dD o=false)(h':iQ o=false):g7 o.op=true:=by simpa[dD,h']using h
section
variable{q:eI}{ov:Orc}{ops:List Oper}{ord:List Nat}{k nt m:Nat}{ms:List MOp}{xs:List A}{Hs:Nat→aG}{st:St}{a a':Act}{c0 c:Cfg}{listed:Array Bool}
theorem s7{d:Tmp}{v:Value}(hd:d<a.tmps.size):(a.put (some d) v).tmps.getD d undef=v:=by rw[Rel.getD_put hd,if_pos rfl]
theorem lV{d:Option Tmp}{v:Value}{t:Tmp}(hd:∀ d',d=some d'→d'<a.tmps.size)(ht:d≠some t):(a.put d v).tmps.getD t undef=a.tmps.getD t undef:=by
 cases d with
 |none=>rfl
 |some d =>
  rw[Rel.getD_put (hd d rfl),if_neg]
  rintro rfl
  exact ht rfl
theorem kA.step(hp:uD ops a.tmps.size ord k)(h:kA T ops ord k xs Hs a c0 listed a' c m){i:Nat}{o:Oper}{c1:Cfg}{m1:Nat}{v:Value}(hi:i∈Region.ready .any ops.toArray listed)(ho:ops[i]?=some o)(hto:To c c1)(hok:Ok T.gl c1)(hH:c1.H=Hs m1)
  (hm1:(m1=m∧(dD o=true→aS ord i<k))∨(m=aS ord i∧m1=m+1∧dD o=true))
  (hv:iQ o=false→∃ x,xs[aS ord i]?=some x∧R c1.ρ c1.own c1.w x v)
  (ha:∀ t,iQ o=true→o.op=.alloc t→∃ g,v=.pointer (some ⟨g,0,none⟩)∧c.w.heap.size≤g∧pD T c0.w.heap.size c1 t g) :
  kA T ops ord k xs Hs a c0 (listed.setIfInBounds i true) (a'.put o.dst v) c1 m1:=by
 obtain⟨hl,-⟩:=Rel.ready_spec.1 hi
 have hil:=Rel.lt_of_get ho
 have hdl:∀ d',o.dst=some d'→d'<a'.tmps.size:=fun d' hd'=>by rw[h.size];exact(hp.dst i o d' ho hd').1
 have hmm:m≤m1:=by rcases hm1 with⟨e,-⟩|⟨-,e,-⟩<;>omega
 have hne:∀(j:Nat) (oj:Oper) (d:Tmp),ops[j]?=some oj→oj.dst=some d→j≠i→o.dst≠some d:=fun j oj d hj hd hji he=>by
  have h1:=(hp.dst j oj d hj hd).2
  rw[(hp.dst i o d ho he).2]at h1
  exact hji (Option.some.inj h1).symm
 have hpe:∀ j,j<ops.length→aS ord j=aS ord i→j=i:=fun j hj he=>hp.inj hj hil he
 refine⟨h.to.trans hto,hok,by rw[Rel.size_put,h.size],by rw[Rel.defers_put,h.defers],by simpa using h.lsize,Rel.closed_set h.closed hi,hH,Nat.le_trans h.km hmm,?_,fun j oj hj mj hk=>?_,fun j oj hj aj hlt=>?_,fun j oj d hj hlj hd hal=>?_,fun j oj d t hj hlj hd aj hop hmp=>?_,
  fun j j' oj oj' d d' hj hj' hlj hlj' hd hd' aj aj' hmj hmj' he=>?_,fun t ht=>?_⟩
 ·rcases hm1 with⟨e,-⟩|⟨e,e',-⟩
  ·rw[e];exact h.ml
  ·have:=(hp.pos i hil).1
   omega
 ·by_cases hji:j=i
  ·subst hji
   obtain rfl:=Option.some.inj (ho.symm.trans hj)
   rcases hm1 with⟨-,e⟩|⟨e,e',-⟩
   ·have:=e mj
    omega
   ·exact⟨fun _=>by omega,fun _=>by simp[Array.getD_eq_getD_getElem?,Rel.size_of_getD hl]⟩
  ·have h1:=h.mem j oj hj mj hk
   have h2:aS ord j<m↔aS ord j<m1:=by
    rcases hm1 with⟨e,-⟩|⟨e,e',-⟩
    ·rw[e]
    ·constructor
     ·omega
     ·intro h3
      rcases Nat.lt_or_ge (aS ord j) m with h4|h4
      ·exact h4
      ·exact absurd (hpe j (Rel.lt_of_get hj) (by omega)) hji
   rw[← h2,← h1]
   exact⟨fun h3=>Rel.getD_set_other h3 hji,Rel.getD_set_keeps⟩
 ·rcases hm1 with⟨e,-⟩|⟨e,e',hme⟩
  ·exact Rel.getD_set_keeps (h.al j oj hj aj (by omega))
  ·rcases Nat.lt_or_ge (aS ord j) m with h4|h4
   ·exact Rel.getD_set_keeps (h.al j oj hj aj h4)
   ·obtain rfl:=hpe j (Rel.lt_of_get hj) (by omega)
    obtain rfl:=Option.some.inj (ho.symm.trans hj)
    rw[sD aj]at hme
    cases hme
 ·by_cases hji:j=i
  ·subst hji
   obtain rfl:=Option.some.inj (ho.symm.trans hj)
   have hna:iQ o=false:=by
    cases hh:iQ o with
    |false=>rfl
    |true =>
     exfalso
     have h3:=hal hh
     rcases hm1 with⟨e,-⟩|⟨-,-,hme⟩
     ·have:=h.al j o ho hh (by omega)
      rw[hl]at this
      cases this
     ·rw[sD hh]at hme
      cases hme
   obtain⟨x,h1,h2⟩:=hv hna
   refine⟨x,h1,?_⟩
   rw[hd,s7 (hdl d hd)]
   exact h2
  ·have hpm:iQ oj=true→aS ord j<m:=fun aj=>by
    have h3:=hal aj
    rcases hm1 with⟨e,-⟩|⟨e,e',-⟩
    ·omega
    ·rcases Nat.lt_or_ge (aS ord j) m with h4|h4
     ·exact h4
     ·exact absurd (hpe j (Rel.lt_of_get hj) (by omega)) hji
   obtain⟨x,h1,h2⟩:=h.vals j oj d hj (Rel.getD_set_other hlj hji) hd hpm
   refine⟨x,h1,?_⟩
   rw[lV hdl (hne j oj d hj hd hji)]
   exact h2.to hto h.ok
 ·by_cases hji:j=i
  ·subst hji
   obtain rfl:=Option.some.inj (ho.symm.trans hj)
   obtain⟨g,h1,-,h3⟩:=ha t aj hop
   refine⟨g,?_,h3⟩
   rw[hd,s7 (hdl d hd)]
   exact h1
  ·obtain⟨g,h1,h2⟩:=h.early j oj d t hj (Rel.getD_set_other hlj hji) hd aj hop (by omega)
   refine⟨g,?_,h2.to hto⟩
   rw[lV hdl (hne j oj d hj hd hji)]
   exact h1
 ·have key:∀(j:Nat) oj d,ops[j]?=some oj→(listed.setIfInBounds i true).getD j true=true→oj.dst=some d→iQ oj=true→m1≤aS ord j→j≠i→iQ o=true→∀ w,(a'.put o.dst v).tmps.getD d undef=w→w=v→False:=by
   intro j oj d hj hlj hd aj hmj hji hao w hw hwv
   obtain⟨t,-,hop,-,-⟩:=kI aj
   obtain⟨t',-,hop',-,-⟩:=kI hao
   obtain⟨g,h1,h2⟩:=h.early j oj d t hj (Rel.getD_set_other hlj hji) hd aj hop (by omega)
   obtain⟨g',h3,h4,-⟩:=ha t' hao hop'
   rw[lV hdl (hne j oj d hj hd hji),h1]at hw
   rw[← hw,h3]at hwv
   have h5:=h2.lt
   simp only[Value.pointer.injEq,Option.some.injEq,Addr.mk.injEq]at hwv
   omega
  by_cases hji:j=i
  ·by_cases hji':j'=i
   ·rw[hji,hji']
   ·subst hji
    obtain rfl:=Option.some.inj (ho.symm.trans hj)
    rw[hd,s7 (hdl d hd),← hd]at he
    exact(key j' oj' d' hj' hlj' hd' aj' hmj' hji' aj _ he.symm rfl).elim
  ·by_cases hji':j'=i
   ·subst hji'
    obtain rfl:=Option.some.inj (ho.symm.trans hj')
    rw[hd',s7 (hdl d' hd'),← hd']at he
    exact(key j oj d hj hlj hd aj hmj hji aj' _ he rfl).elim
   ·rw[lV hdl (hne j oj d hj hd hji),lV hdl (hne j' oj' d' hj' hd' hji')]at he
    exact h.apart j j' oj oj' d d' hj hj' (Rel.getD_set_other hlj hji) (Rel.getD_set_other hlj' hji') hd hd' aj aj' (by omega) (by omega) he
 ·rw[lV hdl fun he=>absurd rfl (Rel.getD_set_true (ht i o ho he)).1]
  exact h.rest t fun j oj hj hd=>(Rel.getD_set_true (ht j oj hj hd)).2
end
end Go.Proofs.YtpdphobnchajbaaGreatDoor.Ev
namespace Go.Proofs.YtpdphobnchajbaaGreatDoor.Ev
open Go Go.RowKit
variable{T:Tb}
def HLe(H H':aG):Prop:=∀(b:Nat) (k:Blk),H[b]?=some (some k)→H'[b]?=some (some k)
theorem HLe.refl(H:aG):HLe H H:=fun _ _ h=>h
theorem HLe.trans{H H' H'':aG}(h:HLe H H')(h':HLe H' H''):HLe H H'':=fun b k hb=>h' b k (h b k hb)
theorem HLe.app(H l:aG):HLe H (H++l):=fun b k h=>by
 rw[List.getElem?_append_left (List.getElem?_eq_some_iff.1 h).1]
 exact h
theorem HLe.set{H0 H:aG}(h:HLe H0 H){b:Nat}(hb:H0.length≤b)(x:Option Blk):HLe H0 (H.set b x):=fun i k hi=>by
 have:=(List.getElem?_eq_some_iff.1 hi).1
 rw[List.getElem?_set_ne (by omega)]
 exact h i k hi
section
variable{H H':aG}(hle:HLe H H')
include hle
theorem JK:∀ n:Nat,(∀ a r:A,freeze H n a=some r→freeze H' n a=some r)∧(∀ cs rs:List A,bQ (freeze H n) cs=some rs→bQ (freeze H' n) cs=some rs):=by
 intro n
 induction n with
 |zero =>
  refine⟨fun a r h=>by simp[freeze]at h,fun cs=>?_⟩
  cases cs with
  |nil=>intro rs h;simpa[bQ]using h
  |cons c cs=>intro rs h;simp[bQ,freeze]at h
 |succ n ih =>
  have mapL:∀(cs:List A) (f:List A→A) (r:A),(bQ (freeze H n) cs).map f=some r→(bQ (freeze H' n) cs).map f=some r:=fun cs f r h=>by
   cases hf:bQ (freeze H n) cs with
   |none=>simp[hf]at h
   |some rs =>
    rw[hf]at h
    rw[ih.2 cs rs hf]
    exact h
  have hA:∀ a r:A,freeze H (n+1) a=some r→freeze H' (n+1) a=some r:=by
   intro a r h
   cases a with
   |agg cs =>
    simp only[freeze]at h ⊢
    exact mapL cs _ r h
   |tup cs =>
    simp only[freeze]at h ⊢
    exact mapL cs _ r h
   |clo f fs caps =>
    simp only[freeze]at h ⊢
    cases h1:bQ (freeze H n) fs with
    |none=>simp[h1]at h
    |some xs =>
     cases h2:bQ (freeze H n) caps with
     |none=>simp[h1,h2]at h
     |some ys =>
      rw[h1,h2]at h
      rw[ih.2 _ _ h1,ih.2 _ _ h2]
      exact h
   |mp b =>
    simp only[freeze]at h ⊢
    split at h
    ·rename_i k hb
     rw[hle b k hb]
     exact mapL _ _ r h
    ·cases h
   |ptr b off =>
    simp only[freeze]at h ⊢
    split at h
    ·rename_i k hb
     rw[hle b k hb]
     exact mapL _ _ r h
    ·cases h
   |ref b off len sz =>
    simp only[freeze]at h ⊢
    split at h
    ·rename_i k hb
     rw[hle b k hb]
     simp only
     split at h
     ·rename_i hc
      rw[if_pos hc]
      exact mapL _ _ r h
     ·cases h
    ·cases h
   |_ =>
    simp only[freeze]at h ⊢
    exact h
  refine⟨hA,fun cs=>?_⟩
  induction cs with
  |nil=>intro rs h;simpa[bQ]using h
  |cons c cs ihc =>
   intro rs h
   unfold bQ at h ⊢
   cases h1:freeze H (n+1) c with
   |none=>simp[h1]at h
   |some x =>
    cases h2:bQ (freeze H (n+1)) cs with
    |none=>simp[h1,h2]at h
    |some xs =>
     rw[h1,h2]at h
     rw[hA c x h1,ihc xs h2]
     exact h
theorem CT:∀(l r:List A),aV H l=some r→aV H' l=some r
 |[],r,h=>h
 |a::l,r,h=>by
  unfold aV at h ⊢
  cases h1:freeze H 20 a with
  |none=>simp[h1]at h
  |some x =>
   cases h2:aV H l with
   |none=>simp[h1,h2]at h
   |some xs =>
    rw[h1,h2]at h
    rw[(JK hle 20).1 a x h1,CT l xs h2]
    exact h
theorem PS{G:Nat→Option (List Value)}{a:A}{cs:List A}(h:lC G H a=some cs):lC G H' a=some cs:=by
 cases a with
 |ptr b off =>
  simp only[lC]at h ⊢
  split at h
  ·rename_i k hb
   rw[hle b k hb]
   exact h
  ·cases h
 |v y =>
  unfold lC at h ⊢
  split at h
  ·rename_i heq
   cases heq
   exact h
  ·rename_i heq
   cases heq
  ·rename_i heq
   cases heq
  ·cases h
 |fp l=>exact h
 |_=>cases h
theorem BD{a:A}{cs:List A}(h:dX H a=some cs):dX H' a=some cs:=by
 cases a with
 |mp b =>
  simp only[dX]at h ⊢
  split at h
  ·rename_i k hb
   rw[hle b k hb]
   exact h
  ·cases h
 |v y =>
  unfold dX at h ⊢
  split at h
  ·rename_i heq
   cases heq
  ·rename_i heq
   cases heq
   exact h
  ·rename_i heq
   cases heq
  ·cases h
 |mf l=>exact h
 |_=>cases h
theorem PG{k k':K}{b off len sz:Nat}{x:A}(h:BN T H k k' b off len sz=some x):BN T H' k k' b off len sz=some x:=by
 unfold BN at h ⊢
 split at h
 ·rename_i el blk hb
  simp only[hle b blk hb]
  exact h
 ·cases h
theorem NJ{e:Env}{op:Op}{x:A}(h:aN T e H op=some x):aN T e H' op=some x:=by
 cases op with
 |convert s t p =>
  simp only[aN]at h ⊢
  split at h
  ·exact h
  ·exact h
  ·cases hq:Nat.beq t 9 with
   |false =>
    rw[hq]at h
    cases h
   |true =>
    rw[hq,cond_true]at h
    rw[cond_true]
    exact PG hle h
  ·cases h
 |load t p =>
  simp only[aN]at h ⊢
  cases hp:opnd e p with
  |none=>simp[hp]at h
  |some a =>
   simp only[hp,Option.bind_some]at h ⊢
   cases hr:lC T.gl.tab H a with
   |none=>simp[hr]at h
   |some cs =>
    rw[hr]at h
    rw[PS hle hr]
    exact h
 |lookup t m k ok =>
  simp only[aN]at h ⊢
  split at h
  ·rename_i ty mv key hty hm hk
   split at h
   ·rename_i kt et hkd
    split at h
    ·rename_i tk te es h1 h2 h3
     rw[BD hle h3,h1,h2]
     exact h
    ·cases h
   ·cases h
  ·cases h
 |slice t p lo hi mx =>
  cases hp:opnd e p with
  |none =>
   exfalso
   simp only[aN,hp]at h
   split at h<;>simp_all
  |some a =>
   cases a with
   |ptr b off =>
    simp only[aN,hp]at h ⊢
    split at h
    ·cases ‹some (A.ptr b off)=some _›
     split at h
     ·cases h
     ·split at h<;>cases h
     ·split at h
      ·rename_i h1 h2
       simp only at h ⊢
       split at h
       ·rename_i k hk
        rw[hle b k hk]
        exact h
       ·cases h
      ·cases h
     ·cases h
    ·cases h
   |v y =>
    simp only[aN,hp]at h ⊢
    split at h
    ·cases ‹some (A.v y)=some _›
     split at h
     ·exact h
     ·exact h
     ·split at h<;>cases h
     ·cases h
    ·cases h
   |_ =>
    simp only[aN,hp]at h ⊢
    split at h
    ·cases ‹some _=some _›
     split at h
     ·first|exact h|cases h
     ·first|exact h|(split at h<;>cases h)
     ·split at h
      ·rename_i h1 h2
       simp only at h ⊢
       first|exact h|cases h
      ·cases h
     ·cases h
    ·cases h
 |_=>exact h
theorem YT{q:eI}{e:Env}{op:Op}{x:A}(h:d9 T q ⟨e,H⟩ op=some x):d9 T q ⟨e,H'⟩ op=some x:=by
 unfold d9 at h ⊢
 simp only at h ⊢
 cases hc:calls e op with
 |some fa =>
  obtain⟨f|b0,l⟩:=fa
  rotate_left
  ·simp[hc]at h
  simp only[hc]at h ⊢
  cases hl:aV H l with
  |none=>simp[hl]at h
  |some r =>
   rw[hl]at h
   rw[CT hle l r hl]
   exact h
 |none =>
  simp only[hc]at h ⊢
  cases op with
  |buildSlice t n ps=>exact h
  |_=>exact NJ hle h
theorem AK{q:eI}{e:Env}{m:MOp}{x:A}(h:jY T q ⟨e,H⟩ m=some x):jY T q ⟨e,H'⟩ m=some x:=by
 unfold jY at h ⊢
 simp only at h ⊢
 split at h
 ·cases h
 ·exact h
 ·exact YT hle h
end
end Go.Proofs.YtpdphobnchajbaaGreatDoor.Ev
namespace Go.Proofs.YtpdphobnchajbaaGreatDoor.Ev
open Go Go.RowKit
variable{T:Tb}
theorem PK{a b:ByteArray}(h:(a==b)=true):a=b:=by
 cases a with|mk a=>cases b with|mk b =>
 have:(a==b)=true:=h
 rw[eq_of_beq this]
theorem qV{a:Array Value}(h:a.isEmpty=true):a=#[]:=by simpa using h
theorem a0e{x y:Value}(h:eqV x y=true):x=y:=by
 unfold eqV at h
 split at h
 ·simp only[Bool.and_eq_true,decide_eq_true_eq]at h
  rw[h.1,h.2]
 ·simpa using h
 ·rw[PK h]
 ·simp only[Bool.and_eq_true,xD]at h
  rw[h.1,h.2]
 ·simp only[Bool.and_eq_true,decide_eq_true_eq,xD]at h
  rw[h.1,h.2.1,h.2.2]
 ·rfl
 ·simpa using h
 ·rfl
 ·rfl
 ·rfl
 ·simp only[Bool.and_eq_true,xD]at h
  obtain⟨rfl,⟨⟨h1,h2⟩,h3⟩,h4⟩:=h
  rw[qV h1,qV h2,qV h3,qV h4]
 ·cases h
mutual
theorem aAS:∀(a b:A),eqA a b=true→a=b
 |.v x,b,h=>by
  cases b<;>simp only[eqA]at h<;>first|(cases h;done)|rw[a0e h]
 |.agg l,b,h=>by
  cases b<;>simp only[eqA]at h<;>first|(cases h;done)|rw[mT l _ h]
 |.tup l,b,h=>by
  cases b<;>simp only[eqA]at h<;>first|(cases h;done)|rw[mT l _ h]
 |.ptr i o,b,h=>by
  cases b<;>simp only[eqA,Bool.and_eq_true,xD]at h<;>first|(cases h;done)|rw[h.1,h.2]
 |.ref i o n z,b,h=>by
  cases b<;>simp only[eqA,Bool.and_eq_true,xD]at h<;>first|(cases h;done)|rw[h.1.1.1,h.1.1.2,h.1.2,h.2]
 |.sl n l,b,h=>by
  cases b<;>simp only[eqA,Bool.and_eq_true,xD]at h<;>first|(cases h;done)|rw[h.1,mT l _ h.2]
 |.fp l,b,h=>by
  cases b<;>simp only[eqA]at h<;>first|(cases h;done)|rw[mT l _ h]
 |.mp i,b,h=>by
  cases b<;>simp only[eqA,xD]at h<;>first|(cases h;done)|rw[h]
 |.mf l,b,h=>by
  cases b<;>simp only[eqA]at h<;>first|(cases h;done)|rw[mT l _ h]
 |.clo f l r,b,h=>by
  cases b<;>simp only[eqA,Bool.and_eq_true,xD]at h<;>first|(cases h;done)|rw[h.1.1,mT l _ h.1.2,mT r _ h.2]
theorem mT:∀(a b:List A),eqL a b=true→a=b
 |[],b,h=>by
  cases b with
  |nil=>rfl
  |cons _ _=>simp[eqL]at h
 |x::l,b,h=>by
  cases b with
  |nil=>simp[eqL]at h
  |cons y r =>
   simp only[eqL,Bool.and_eq_true]at h
   rw[aAS x y h.1,mT l r h.2]
end
theorem OV(H H':aG):∀ n:Nat,(∀ a:A,shut a=true→freeze H n a=freeze H' n a)∧(∀ cs:List A,shut.shutL cs=true→bQ (freeze H n) cs=bQ (freeze H' n) cs):=by
 intro n
 induction n with
 |zero =>
  refine⟨fun a _=>rfl,fun cs=>?_⟩
  cases cs<;>intro _<;>rfl
 |succ n ih =>
  have hA:∀ a:A,shut a=true→freeze H (n+1) a=freeze H' (n+1) a:=by
   intro a h
   cases a with
   |agg cs =>
    simp only[freeze]
    rw[ih.2 cs (by simpa[shut]using h)]
   |tup cs =>
    simp only[freeze]
    rw[ih.2 cs (by simpa[shut]using h)]
   |clo f fs caps =>
    simp only[shut,Bool.and_eq_true]at h
    simp only[freeze]
    rw[ih.2 fs h.1,ih.2 caps h.2]
   |ptr b o=>simp[shut]at h
   |ref b o l s=>simp[shut]at h
   |mp b=>simp[shut]at h
   |yl b=>simp[shut]at h
   |lrec nt ps sl a b=>simp[shut]at h
   |it b=>simp[shut]at h
   |its s p=>simp[shut]at h
   |_=>simp only[freeze]
  refine⟨hA,fun cs=>?_⟩
  induction cs with
  |nil=>intro _;rfl
  |cons c cs ihc =>
   intro h
   simp only[shut.shutL,Bool.and_eq_true]at h
   unfold bQ
   rw[hA c h.1,ihc h.2]
theorem I0(H H':aG):∀ l:List A,l.all shut=true→aV H l=aV H' l
 |[],_=>rfl
 |a::l,h=>by
  simp only[List.all_cons,Bool.and_eq_true]at h
  unfold aV
  rw[(OV H H' 20).1 a h.1,I0 H H' l h.2]
theorem aDr{q:eI}{e e0:Env}{H H0:aG}{m:MOp}{x:A}(h:jY T q ⟨e0,H0⟩ m=some x)(ha:mJ T ⟨e,H⟩ m=true)(hop:gV m.op.operands.toList e e0)(hg:wants e m.guard=wants e0 m.guard)(hd:∀ d,m.dst=some d→cI e d=some x) :
  jY T q ⟨e0,H⟩ m=some x:=by
 unfold jY at h ⊢
 unfold mJ at ha
 simp only at h ha ⊢
 rw[hg]at ha
 cases hw:wants e0 m.guard with
 |none=>simp[hw]at h
 |some b =>
  cases b with
  |false=>simpa[hw]using h
  |true =>
   simp only[hw]at h ha ⊢
   unfold d9 at h ⊢
   simp only at h ⊢
   rw[lG hop]at ha
   cases hc:calls e0 m.op with
   |some fl =>
    obtain⟨f|b0,l⟩:=fl
    rotate_left
    ·simp[hc]at h
    simp only[hc]at h ha ⊢
    rw[I0 H H0 l ha]
    exact h
   |none =>
    simp only[hc]at h ha ⊢
    rw[kX hop]at ha
    cases ho:m.op with
    |buildSlice t n ps =>
     rw[ho]at h
     exact h
    |_ =>
     simp only[ho]at h ha ⊢
     cases hdst:m.dst with
     |none=>simp[hdst]at ha
     |some d =>
      simp only[hdst,hd d hdst]at ha
      split at ha
      ·rename_i y x' hy hx
       obtain rfl:=Option.some.inj hx
       rw[hy,aAS _ _ ha]
      ·cases ha
theorem uO{st:St}:∀{l:List MOp} {m:MOp},againAll T st l=true→m∈l→mJ T st m=true
 |[],_,_,h=>by cases h
 |m'::l,m,h,hm=>by
  simp only[againAll,Bool.and_eq_true]at h
  rcases List.mem_cons.1 hm with rfl|hm
  ·exact h.1
  ·exact uO h.2 hm
end Go.Proofs.YtpdphobnchajbaaGreatDoor.Ev
namespace Go.Proofs.YtpdphobnchajbaaGreatDoor.Ev
open Go Go.RowKit
variable{P:Program}{T:Tb}
section
variable{q:eI}{ov:Orc}{ops:List Oper}{ord:List Nat}{k m:Nat}{ms:List MOp}{xs:List A}{Hs:Nat→aG}{st:St}{a a':Act}{c0 c:Cfg}{listed:Array Bool}
theorem rL{e:Env}{H H':aG}{mm:MOp}{x:A}(hpu:g7 mm.op=true)(h:nN T ov ⟨e,H⟩ mm=some (x,H')):H'=H:=by
 unfold nN at h
 simp only at h
 cases hw:wants e mm.guard with
 |none=>simp[hw]at h
 |some b =>
  cases b with
  |false =>
   simp only[hw,Option.some.injEq,Prod.mk.injEq]at h
   exact h.2.symm
  |true =>
   simp only[hw,HM hpu]at h
   cases hq:aN T e H mm.op with
   |none=>simp[hq]at h
   |some y =>
    simp only[hq,Option.map_some,Option.some.injEq,Prod.mk.injEq]at h
    exact h.2.symm
theorem lE{e:Env}{H H':aG}{mm:MOp}{x:A}{t:TypeId}(ho:mm.op=.alloc t)(hg:mm.guard=none)(h:nN T ov ⟨e,H⟩ mm=some (x,H')):∃ ty,T t=some ty∧x=.ptr H.length 0∧H'=H++[some ⟨t,ty.zero.map .v,true⟩]:=by
 unfold nN at h
 simp only[hg,wants,ho,bZ,calls,aR]at h
 cases ht:T t with
 |none=>simp[ht,aN]at h
 |some ty =>
  simp only[ht,Option.some.injEq,Prod.mk.injEq]at h
  exact⟨ty,rfl,h.1.symm,h.2.symm⟩
theorem kA.advance(hp:uD ops a.tmps.size ord k)(hc:jF a.tmps.size ops ord=some ms)(tr:uG T q ov k ms st xs Hs)(h:kA T ops ord k xs Hs a c0 listed a' c m){i:Nat}{o:Oper}(hi:ord[m]?=some i)(ho:ops[i]?=some o)(hme:dD o=false)(hal:iQ o=true→listed.getD i true=true) :
  ∃ c',c'.w=c.w∧kA T ops ord k xs Hs a c0 listed a' c' (m+1):=by
 have hml:m<ops.length:=by rw[← hp.len];exact Rel.lt_of_get hi
 have hpi:aS ord i=m:=by
  obtain⟨i',h1,-,h3⟩:=hp.at_ m hml
  rw[hi]at h1
  obtain rfl:=Option.some.inj h1
  exact h3
 have hpe:∀(j:Nat) (oj:Oper),ops[j]?=some oj→aS ord j=m→j=i:=fun j oj hj he=>hp.inj (Rel.lt_of_get hj) (Rel.lt_of_get ho) (he.trans hpi.symm)
 obtain⟨o1,mm,ho1,hmm,hcm⟩:=(fG hc).2 m i hi
 obtain rfl:=Option.some.inj (ho.symm.trans ho1)
 obtain⟨x,hx,hst⟩:=tr.tail m mm h.km hmm
 have hmemlt:∀(j:Nat) oj,ops[j]?=some oj→dD oj=true→(aS ord j<m↔aS ord j<m+1):=fun j oj hj mj=>by
  constructor
  ·omega
  ·intro h1
   rcases Nat.lt_or_ge (aS ord j) m with h2|h2
   ·exact h2
   ·obtain rfl:=hpe j oj hj (by omega)
    obtain rfl:=Option.some.inj (ho.symm.trans hj)
    rw[hme]at mj
    cases mj
 cases ha:iQ o with
 |false =>
  have hpu:=aG7 hme ha
  have hH:Hs (m+1)=Hs m:=rL (by rw[hcm.op];exact hpu) hst
  have hallt:∀(j:Nat) oj,ops[j]?=some oj→iQ oj=true→aS ord j<m+1→aS ord j<m:=fun j oj hj aj h1=>by
   rcases Nat.lt_or_ge (aS ord j) m with h2|h2
   ·exact h2
   ·obtain rfl:=hpe j oj hj (by omega)
    obtain rfl:=Option.some.inj (ho.symm.trans hj)
    rw[ha]at aj
    cases aj
  exact⟨c,rfl,h.to,h.ok,h.size,h.defers,h.lsize,h.closed,by rw[hH];exact h.heap,by have:=h.km;omega,hml,fun j oj hj mj hk=>(h.mem j oj hj mj hk).trans (hmemlt j oj hj mj),fun j oj hj aj hlt=>h.al j oj hj aj (hallt j oj hj aj hlt),
   fun j oj d hj hlj hd hpj=>h.vals j oj d hj hlj hd fun aj=>hallt j oj hj aj (hpj aj),fun j oj d t hj hlj hd aj hop hmp=>h.early j oj d t hj hlj hd aj hop (by omega),
   fun j j' oj oj' d d' hj hj' hlj hlj' hd hd' aj aj' h1 h2 he=>h.apart j j' oj oj' d d' hj hj' hlj hlj' hd hd' aj aj' (by omega) (by omega) he,h.rest⟩
 |true =>
  obtain⟨t,d,hop,hgd,hd⟩:=kI ha
  have hmg:mm.guard=none:=by
   rcases hcm.guard with⟨-,h2⟩|⟨g,b,t',h1,-,-⟩
   ·exact h2
   ·rw[hgd]at h1;cases h1
  obtain⟨ty,hty,rfl,hH⟩:=lE (by rw[hcm.op];exact hop) hmg hst
  obtain⟨g,hg,hE⟩:=h.early i o d t ho (hal ha) hd ha hop (by omega)
  obtain⟨c',w1,w2,w3,w4,w5,w6,w7,w8,w9⟩:=YZ h.ok hE hty
  have hel:∀{t':TypeId} {g':Nat},pD T c0.w.heap.size c t' g'→g'≠g→pD T c0.w.heap.size c' t' g':=fun hE' hne=>by
   obtain⟨ty',cur,k1,k2,k3⟩:=hE'.lies
   exact⟨hE'.new,by rw[w2];exact hE'.own,fun hi=>(w8 _ hi).elim hE'.off hne,ty',cur,k1,by rw[w1];exact k2,k3⟩
  refine⟨c',w1,w9 c0 hE.new h.to,w5,h.size,h.defers,h.lsize,h.closed,by rw[w3,hH,h.heap],by have:=h.km;omega,hml,fun j oj hj mj hk=>(h.mem j oj hj mj hk).trans (hmemlt j oj hj mj),fun j oj hj aj hlt=>?_,
   fun j oj d' hj hlj hd' hpj=>?_,fun j oj d' t' hj hlj hd' aj hop' hmp=>?_,fun j j' oj oj' d d' hj hj' hlj hlj' hd hd' aj aj' h1 h2 he=>h.apart j j' oj oj' d d' hj hj' hlj hlj' hd hd' aj aj' (by omega) (by omega) he,h.rest⟩
  ·rcases Nat.lt_or_ge (aS ord j) m with h2|h2
   ·exact h.al j oj hj aj h2
   ·obtain rfl:=hpe j oj hj (by omega)
    exact hal ha
  ·by_cases hji:j=i
   ·subst hji
    obtain rfl:=Option.some.inj (ho.symm.trans hj)
    obtain rfl:=Option.some.inj (hd.symm.trans hd')
    refine⟨_,by rw[hpi];exact hx,?_⟩
    rw[R,hg,← h.heap]
    obtain⟨ty',cur,-,k2,-⟩:=hE.lies
    exact⟨g,w7,rfl,cur,t,(0,0),by rw[w1];exact k2⟩
   ·obtain⟨y,k1,k2⟩:=h.vals j oj d' hj hlj hd' fun aj=>by
     have:=hpj aj
     rcases Nat.lt_or_ge (aS ord j) m with h2|h2
     ·exact h2
     ·exact absurd (hpe j oj hj (by omega)) hji
    exact⟨y,k1,R.keep w6 _ _ k2⟩
  ·obtain⟨g',k1,k2⟩:=h.early j oj d' t' hj hlj hd' aj hop' (by omega)
   refine⟨g',k1,hel k2 fun hgg=>?_⟩
   subst hgg
   have:=h.apart j i oj o d' d hj ho hlj (hal ha) hd' hd aj ha (by omega) (by omega) (k1.trans hg.symm)
   subst this
   omega
theorem kA.upto(hp:uD ops a.tmps.size ord k)(hc:jF a.tmps.size ops ord=some ms)(tr:uG T q ov k ms st xs Hs):∀(d m:Nat) (c:Cfg),kA T ops ord k xs Hs a c0 listed a' c m→m+d≤ops.length →
  (∀(p i:Nat) o,m≤p→p<m+d→ord[p]?=some i→ops[i]?=some o→dD o=false∧(iQ o=true→listed.getD i true=true))→∃ c',c'.w=c.w∧kA T ops ord k xs Hs a c0 listed a' c' (m+d)
 |0,m,c,h,_,_=>⟨c,rfl,h⟩
 |d+1,m,c,h,hl,hall=>by
  obtain⟨i,h1,h2,-⟩:=hp.at_ m (by omega)
  have ho:ops[i]?=some ops[i]:=List.getElem?_eq_getElem h2
  obtain⟨h3,h4⟩:=hall m i _ (Nat.le_refl _) (by omega) h1 ho
  obtain⟨c1,e1,g1⟩:=h.advance hp hc tr h1 ho h3 h4
  obtain⟨c2,e2,g2⟩:=kA.upto hp hc tr d (m+1) c1 g1 (by omega) fun p j oj hp1 hp2 hj hoj=>hall p j oj (by omega) (by omega) hj hoj
  exact⟨c2,e2.trans e1,by rw[show m+(d+1)=m+1+d by omega];exact g2⟩
theorem kA.slot(hp:uD ops a.tmps.size ord k)(hc:jF a.tmps.size ops ord=some ms)(h:kA T ops ord k xs Hs a c0 listed a' c m)(ok0:Ok T.gl c0)(he:cF c0 st.env a){i:Nat}{o:Oper}(hi:i∈Region.ready .any ops.toArray listed)(ho:ops[i]?=some o)
  (hm:dD o=true→k≤aS ord i→m=aS ord i) {t:Tmp} (ht:t∈o.looksAt ops.toArray) {z:A} (hz:cI (dA st.env (ms.take (aS ord i)) (xs.take (aS ord i))) t=some z):R c.ρ c.own c.w z (a'.tmps.getD t undef):=by
 obtain⟨hl,o1,ho1,hpr⟩:=Rel.ready_spec.1 hi
 obtain rfl:=Option.some.inj (ho.symm.trans ho1)
 have old:(∀ w,Rel.writer ops 0 t=some w→aS ord i≤aS ord w)→(∀(j:Nat) oj,ops[j]?=some oj→oj.dst=some t→listed.getD j true=false)→R c.ρ c.own c.w z (a'.tmps.getD t undef):=fun h1 h2=>by
  rw[oW hp hc h1]at hz
  rw[h.rest t h2]
  exact(he t z hz).to h.to ok0
 cases hw:Rel.writer ops 0 t with
 |none=>exact old (fun w h1=>by rw[hw]at h1;cases h1) fun j oj hj hd=>absurd hd (Rel.writer_none hw oj (List.mem_of_getElem? hj))
 |some w =>
  obtain⟨-,ow,how,hdw⟩:=Rel.writer_some hw
  have how':ops[w]?=some ow:=by simpa using how
  rcases hp.looks i o t w ho ht hw with hpw|han
  ·have hlw:=Rel.getD_mono (hpr w hpw)
   obtain⟨x,h1,h2⟩:=h.vals w ow t how' hlw hdw fun aw=>by
    obtain⟨hkw,u,ou,hou,mu,hwu,hanc,hfirst,hread⟩:=hp.al w ow how' aw
    rcases hread i o t ho hpw ht hw with rfl|hau
    ·obtain rfl:=Option.some.inj (ho.symm.trans hou)
     have:=hm mu (by omega)
     omega
    ·have hlu:=Rel.anc_listed hp.ancs h.closed i o ho (fun p hpm=>Rel.getD_mono (hpr p hpm)) u hau
     have:=(h.mem u ou hou mu (by omega)).1 hlu
     omega
   rw[kJ hp hc hw (hp.preds i o w ho hpw) h1]at hz
   obtain rfl:=Option.some.inj hz
   exact h2
  ·have hwl:=Rel.lt_of_get how'
   have hpos:=(hp.anc_pos w i hwl han).2
   refine old (fun w' h1=>?_) fun j oj hj hd=>?_
   ·rw[hw]at h1
    obtain rfl:=Option.some.inj h1
    omega
   ·have h1:=(hp.dst j oj t hj hd).2
    rw[hw]at h1
    obtain rfl:=Option.some.inj h1
    cases hlj:listed.getD w true with
    |false=>rfl
    |true =>
     have:=Rel.anc_listed hp.ancs h.closed w ow how' (fun p hpm=>h.closed w ow how' hlj p hpm) i han
     rw[hl]at this
     cases this
theorem kA.low_mono(hp:uD ops a.tmps.size ord k)(hc:jF a.tmps.size ops ord=some ms)(tr:uG T q ov k ms st xs Hs)(h:kA T ops ord k xs Hs a c0 listed a' c m){i:Nat}{o:Oper}(ho:ops[i]?=some o)(hl:listed.getD i true=false)(hme:dD o=true)(hk:aS ord i<k) :
  ∀ p,k≤p→p≤m→(∀(j:Nat) oj,ops[j]?=some oj→dD oj=true→k≤aS ord j→aS ord j<p→pP ops oj=true)→HLe (Hs k) (Hs p)∧(Hs k).length≤(Hs p).length:=by
 intro p
 induction p using Nat.strongRecOn with
 |ind p ih =>
  intro hkp hpm hnew
  rcases Nat.eq_or_lt_of_le hkp with rfl|hlt
  ·exact⟨HLe.refl _,Nat.le_refl _⟩
  ·obtain⟨p,rfl⟩:∃ p',p=p'+1:=⟨p-1,by omega⟩
   obtain⟨ih1,ih2⟩:=ih p (by omega) (by omega) (by omega) fun j oj h1 h2 h3 h4=>hnew j oj h1 h2 h3 (by omega)
   have hml:=h.ml
   obtain⟨j,hj1,hj2,hj3⟩:=hp.at_ p (by omega)
   obtain⟨oj,mm,hoj,hmm,hcm⟩:=(fG hc).2 p j hj1
   obtain⟨x,hx,hst⟩:=tr.tail p mm (by omega) hmm
   by_cases hpu:g7 mm.op=true
   ·rw[rL hpu hst]
    exact⟨ih1,ih2⟩
   ·cases hal:iQ oj with
    |true =>
     obtain⟨t,d,hop,hgd,hd⟩:=kI hal
     have hmg:mm.guard=none:=by
      rcases hcm.guard with⟨-,h2⟩|⟨g,b,t',h1,-,-⟩
      ·exact h2
      ·rw[hgd]at h1;cases h1
     obtain⟨ty,hty,rfl,hH⟩:=lE (by rw[hcm.op];exact hop) hmg hst
     rw[hH]
     exact⟨ih1.trans (HLe.app _ _),by simp;omega⟩
    |false =>
     have hmj:dD oj=true:=by
      rw[hcm.op]at hpu
      simp[dD,hpu,hal]
     have hns:=hnew j oj hoj hmj (by omega) (by omega)
     ·unfold pP at hns
      split at hns
      ·rename_i t z v hop
       split at hns
       ·rename_i ja hwr
        rw[Bool.and_eq_true]at hns
        obtain⟨hns1,hns2⟩:=hns
        obtain⟨-,oa,hoa,hda⟩:=Rel.writer_some hwr
        have hoa':ops[ja]?=some oa:=by simpa using hoa
        have haa:iQ oa=true:=by simpa[opA,hoa']using hns1
        have hpa:aS ord ja<p:=by
         have:=hp.preds j oj ja hoj (by simpa using hns2)
         omega
        obtain⟨hka,-⟩:=hp.al ja oa hoa' haa
        obtain⟨hpal,hpao⟩:=hp.pos ja (Rel.lt_of_get hoa')
        obtain⟨oa2,ma,hoa2,hma,hcma⟩:=(fG hc).2 _ _ hpao
        obtain rfl:=Option.some.inj (hoa'.symm.trans hoa2)
        obtain⟨xa,hxa,hsta⟩:=tr.tail _ ma hka hma
        obtain⟨ta,da,hopa,hgda,hdda⟩:=kI haa
        have hmga:ma.guard=none:=by
         rcases hcma.guard with⟨-,h2⟩|⟨g,b,t',h1,-,-⟩
         ·exact h2
         ·rw[hgda]at h1;cases h1
        obtain⟨tya,-,rfl,-⟩:=lE (by rw[hcma.op];exact hopa) hmga hsta
        have hlook:=kJ (e:=st.env) hp hc hwr hpa hxa
        obtain⟨-,ih3⟩:=ih (aS ord ja) (by omega) hka (by omega) fun j oj h1 h2 h3 h4=>hnew j oj h1 h2 h3 (by omega)
        unfold nN at hst
        simp only at hst
        cases hw:wants (dA st.env (ms.take p) (xs.take p)) mm.guard with
        |none=>simp[hw]at hst
        |some b =>
         cases b with
         |false =>
          simp only[hw,Option.some.injEq,Prod.mk.injEq]at hst
          rw[← hst.2]
          exact⟨ih1,ih2⟩
         |true =>
          simp only[hw,hcm.op,hop,bZ,calls]at hst
          cases hq:aR T (dA st.env (ms.take p) (xs.take p)) (Hs p) (.store t (.tmp z) v)with
          |none=>simp[hq,aN]at hst
          |some xH =>
           obtain⟨x1,H1⟩:=xH
           simp only[hq,Option.some.injEq,Prod.mk.injEq]at hst
           rw[← hst.2]
           simp only[aR,opnd,hlook]at hq
           split at hq
           ·cases ‹some (A.ptr _ _)=some _›
            split at hq
            ·split at hq
             ·simp only[Option.some.injEq,Prod.mk.injEq]at hq
              rw[← hq.2]
              exact⟨HLe.set ih1 ih3 _,by simpa using ih2⟩
             ·cases hq
            ·cases hq
           ·cases hq
       ·cases hns
      ·cases hns
theorem L1{e e':Env}{g:Option (Nat×Bool)}(h:∀ t b,g=some (t,b)→cI e t=cI e' t):wants e g=wants e' g:=by
 cases g with
 |none=>rfl
 |some p =>
  obtain⟨t,b⟩:=p
  simp only[wants]
  rw[h t b rfl]
theorem kA.low(hp:uD ops a.tmps.size ord k)(hc:jF a.tmps.size ops ord=some ms)(tr:uG T q ov k ms st xs Hs)(h:kA T ops ord k xs Hs a c0 listed a' c m)
  (hag:∀ p,k≤p→p<ms.length→againAll T ⟨dA st.env (ms.take (p+1)) (xs.take (p+1)),Hs (p+1)⟩ ((mP ops ord k p).filterMap fun j=>ms[aS ord j]?)=true)
  {i:Nat} {o:Oper} (ho:ops[i]?=some o) (hl:listed.getD i true=false) (hme:dD o=true) (hk:aS ord i<k) {mm:MOp} (hmm:ms[aS ord i]?=some mm) {x:A} (hx:xs[aS ord i]?=some x)
  (hst:jY T q ⟨dA st.env (ms.take (aS ord i)) (xs.take (aS ord i)),st.H⟩ mm=some x) :
  ∀ p,k≤p→p≤m→jY T q ⟨dA st.env (ms.take (aS ord i)) (xs.take (aS ord i)),Hs p⟩ mm=some x:=by
 intro p
 induction p with
 |zero =>
  intro hkp _
  omega
 |succ p ih =>
  intro hkp hpm
  rcases Nat.eq_or_lt_of_le hkp with rfl|hlt
  ·rw[tr.low _ (Nat.le_refl _)]
   exact hst
  have ih:=ih (by omega) (by omega)
  have hml:=h.ml
  obtain⟨j,hj1,hj2,hj3⟩:=hp.at_ p (by omega)
  obtain⟨oj,mj,hoj,hmj,hcj⟩:=(fG hc).2 p j hj1
  have hlen:ms.length=ops.length:=(fG hc).1.trans hp.len
  obtain⟨y,hy,hstj⟩:=tr.tail p mj (by omega) hmj
  by_cases hpu:g7 mj.op=true
  ·rw[rL hpu hstj]
   exact ih
  cases hal:iQ oj with
  |true =>
   obtain⟨t,d,hop,hgd,hd⟩:=kI hal
   have hmg:mj.guard=none:=by
    rcases hcj.guard with⟨-,h2⟩|⟨g,b,t',h1,-,-⟩
    ·exact h2
    ·rw[hgd]at h1;cases h1
   obtain⟨ty,hty,rfl,hH⟩:=lE (by rw[hcj.op];exact hop) hmg hstj
   rw[hH]
   exact AK (HLe.app _ _) ih
  |false =>
   have hmemj:dD oj=true:=by
    rw[hcj.op]at hpu
    simp[dD,hpu,hal]
   by_cases hnew:∀(u:Nat) ou,ops[u]?=some ou→dD ou=true→k≤aS ord u→aS ord u<p+1→pP ops ou=true
   ·have:=(h.low_mono hp hc tr ho hl hme hk (p+1) (by omega) hpm hnew).1
    rw[tr.low k (Nat.le_refl _)]at this
    exact AK this hst
   ·have hw:∃(u:Nat) (ou:Oper),ops[u]?=some ou∧dD ou=true∧k≤aS ord u∧aS ord u<p+1∧pP ops ou=false:=by
     apply Classical.byContradiction
     intro hno
     refine hnew fun u ou h1 h2 h3 h4=>?_
     cases hh:pP ops ou with
     |true=>rfl
     |false=>exact absurd ⟨u,ou,h1,h2,h3,h4,hh⟩ hno
    obtain⟨u,ou,hou,hmu,hku,hpu',hnu⟩:=hw
    have noanc:∀(v:Nat) ov',ops[v]?=some ov'→dD ov'=true→k≤aS ord v→aS ord v<p+1→anc (Rel.masks ops []) v i=false:=fun v ov' h1 h2 h3 h4=>by
     cases hh:anc (Rel.masks ops []) v i with
     |false=>rfl
     |true =>
      have hlv:listed.getD v true=true:=(h.mem v ov' h1 h2 h3).2 (by omega)
      have:=Rel.anc_listed hp.ancs h.closed v ov' h1 (fun q hq=>h.closed v ov' h1 hlv q hq) i hh
      rw[hl]at this
      cases this
    have hagn:agn ops o=true:=by
     rcases hp.mem u i ou o hou ho hmu hme hku (by omega)with h1|⟨-,h1|h1⟩
     ·rw[noanc u ou hou hmu hku hpu']at h1
      cases h1
     ·rw[hnu]at h1
      cases h1
     ·exact h1
    have hil:=Rel.lt_of_get ho
    have hmem:mm∈(mP ops ord k p).filterMap fun j=>ms[aS ord j]?:=by
     refine List.mem_filterMap.2 ⟨i,?_,hmm⟩
     unfold mP
     have hany:(((List.range ops.length).filter fun i=>opA ops dD i&&Nat.ble k (aS ord i)&&Nat.ble (aS ord i) p).any fun i=>!(opA ops (pP ops) i))=true:=by
      refine List.any_eq_true.2 ⟨u,List.mem_filter.2 ⟨List.mem_range.2 (Rel.lt_of_get hou),?_⟩,?_⟩
      ·simp only[opA,hou,hmu,Bool.and_eq_true,aEm,true_and]
       exact⟨hku,by omega⟩
      ·simp[opA,hou,hnu]
     simp only[hany,cond_true]
     refine List.mem_filter.2 ⟨List.mem_range.2 hil,?_⟩
     simp only[opA,ho,hme,Bool.true_and,Bool.and_eq_true,D0]
     refine⟨hk,List.all_eq_true.2 fun v hv=>?_⟩
     obtain⟨hv1,hv2⟩:=List.mem_filter.1 hv
     simp only[Bool.and_eq_true,aEm]at hv2
     have hvl:=List.mem_range.1 hv1
     have hov:ops[v]?=some ops[v]:=List.getElem?_eq_getElem hvl
     rw[noanc v _ hov (by simpa[opA,hov]using hv2.1.1) hv2.1.2 (by omega)]
     rfl
    obtain⟨o1,mm1,ho1,hmm1,hcm⟩:=(fG hc).2 _ _ (hp.pos i hil).2
    obtain rfl:=Option.some.inj (ho.symm.trans ho1)
    obtain rfl:=Option.some.inj (hmm.symm.trans hmm1)
    have hslot:∀ t∈o.looksAt ops.toArray,cI (dA st.env (ms.take (p+1)) (xs.take (p+1))) t=cI (dA st.env (ms.take (aS ord i)) (xs.take (aS ord i))) t:=fun t ht=>by
     cases hwr:Rel.writer ops 0 t with
     |none=>rw[oW hp hc (fun w hw=>by rw[hwr]at hw;cases hw),oW hp hc (fun w hw=>by rw[hwr]at hw;cases hw)]
     |some w =>
      have hpw:w∈Rel.preds o:=by
       unfold agn at hagn
       have:=List.all_eq_true.1 hagn t ht
       simp only[hwr]at this
       simpa using this
      have hlt':=hp.preds i o w ho hpw
      obtain⟨z,hz⟩:∃ z,xs[aS ord w]?=some z:=⟨_,List.getElem?_eq_getElem (by rw[tr.len,hlen];have:=(hp.pos i hil).1;omega)⟩
      rw[kJ hp hc hwr (by omega) hz,kJ hp hc hwr hlt' hz]
    refine aDr hst (uO (hag p (by omega) (by omega)) hmem) (fun z hz=>?_) (L1 fun t b hg=>?_) (fun d hd=>?_)
    ·cases z with
     |tmp t =>
      refine hslot t ?_
      unfold Oper.looksAt
      rw[hcm.op]at hz
      exact List.mem_append_left _ (List.mem_filterMap.2 ⟨_,hz,rfl⟩)
     |_=>rfl
    ·refine hslot t ?_
     unfold Oper.looksAt
     rcases hcm.guard with⟨-,h2⟩|⟨g,b',t',h1,h3,h2⟩
     ·rw[hg]at h2;cases h2
     ·rw[hg]at h2
      simp only[Option.some.injEq,Prod.mk.injEq]at h2
      obtain⟨rfl,rfl⟩:=h2
      refine List.mem_append_right _ ?_
      rw[h1]
      have:(ops.toArray[g]?).bind (·.dst)=some t:=by simpa using h3
      simp only[this,Option.toList_some,List.mem_singleton]
    ·have hod:o.dst=some d:=by rw[← hcm.dst];exact hd
     exact kJ hp hc (hp.dst i o d ho hod).2 (by omega) hx
end
end Go.Proofs.YtpdphobnchajbaaGreatDoor.Ev
namespace Go.Proofs.YtpdphobnchajbaaGreatDoor.Ev
open Go Go.RowKit
variable{P:Program}{T:Tb}
section
variable{q:eI}{ov:Orc}{r:Option Nat}{n nt:Nat}{ops:List Oper}
theorem LW{k:Nat}{ord:List Nat}{ms:List MOp}{xs:List A}{Hs:Nat→aG}{st:St}{a:Act}{c0:Cfg}(hp:uD ops a.tmps.size ord k)(tr:uG T q ov k ms st xs Hs)(ok:Ok T.gl c0)(hH:c0.H=st.H) :
  kA T ops ord k xs Hs a c0 (Array.replicate ops.length false) a c0 k:=by
 have no:∀(i:Nat) (o:Oper),ops[i]?=some o→(Array.replicate ops.length false).getD i true=true→False:=fun i o ho hl=>by
  have:=Rel.lt_of_get ho
  simp[this]at hl
 refine⟨To.refl _,ok,rfl,rfl,by simp,fun i o ho hl=>(no i o ho hl).elim,by rw[hH,tr.low k (Nat.le_refl _)],Nat.le_refl _,hp.kle,fun i o ho _ hk=>⟨fun hl=>(no i o ho hl).elim,fun h=>by omega⟩,fun i o ho ha hlt=>?_,
  fun i o d ho hl=>(no i o ho hl).elim,fun i o d t ho hl=>(no i o ho hl).elim,fun i j o o' d d' ho ho' hl=>(no i o ho hl).elim,fun t _=>rfl⟩
 have:=(hp.al i o ho ha).1
 omega
theorem KJ(hm:P.follows .mixedOrders=true)(hT:TOk P T)(hQ:QOk T P q)(hO:OOk T P ov){id k:Nat}{ord:List Nat}{ms:List MOp}{st st':St}{a:Act}{c:Cfg}{Q:Exit→Act→World→Prop}(hc:jF nt ops ord=some ms)(hf:BW ops nt ord k=true)
  {xs:List A} {Hs:Nat→aG} (tr:uG T q ov k ms st xs Hs) (hst':st'=⟨dA st.env ms xs,Hs ms.length⟩) (hag:∀ p,k≤p→p<ms.length→againAll T ⟨dA st.env (ms.take (p+1)) (xs.take (p+1)),Hs (p+1)⟩ ((mP ops ord k p).filterMap fun j=>ms[aS ord j]?)=true)
  (hH:c.H=st.H) (ok:Ok T.gl c) (he:cF c st.env a) (hs:a.tmps.size=nt)
  (hK:∀ a' c',c'.H=st'.H→To c c'→Ok T.gl c'→cF c' st'.env a'→a'.tmps.size=nt→a'.defers=a.defers→Q .normal a' c'.w):(Code.region id ops.toArray true).wpIn (Wd r) n P Q a c.w:=by
 subst hs
 have hp:=E0 hf
 obtain⟨hml,hmg⟩:=fG hc
 have hlen:ms.length=ops.length:=hml.trans hp.len
 subst hst'
 obtain⟨hto0,ok0⟩:=ok.grow (Rel.Grow.drew c.w)
 have he0:=he.to hto0 ok
 refine wpIn_region_any hm ?_
 generalize hc0:(⟨c.ρ,c.own,c.H,c.w.drew⟩:Cfg)=c0 at hto0 ok0 he0
 have done:∀(listed:Array Bool) (a':Act) (c1:Cfg) (m:Nat),kA T ops ord k xs Hs a c0 listed a' c1 m→(∀ j,listed.getD j true=true)→Q .normal a' c1.w:=by
  intro listed a' c1 m D hall
  have hmle:=D.ml
  have side:∀(p i:Nat) o,m≤p→p<m+(ops.length-m)→ord[p]?=some i→ops[i]?=some o→dD o=false∧(iQ o=true→listed.getD i true=true):=fun p i o hp1 hp2 hi ho=>by
   refine⟨?_,fun _=>hall i⟩
   cases hme:dD o with
   |false=>rfl
   |true =>
    exfalso
    obtain⟨i',h1,-,h3⟩:=hp.at_ p (by omega)
    rw[hi]at h1
    obtain rfl:=Option.some.inj h1
    have:=(D.mem i o ho hme (by have:=D.km;omega)).1 (hall i)
    omega
  obtain⟨c2,e2,g2⟩:=D.upto hp hc tr (ops.length-m) m c1 (by omega) side
  ·rw[show m+(ops.length-m)=ops.length by omega]at g2
   rw[← e2]
   refine hK a' c2 (by rw[g2.heap,hlen]) (hto0.trans g2.to) g2.ok (fun t z hz=>?_) g2.size g2.defers
   have e1:ms=ms.take ops.length:=by rw[List.take_of_length_le (by omega)]
   have e3:xs=xs.take ops.length:=by rw[List.take_of_length_le (by rw[tr.len];omega)]
   simp only at hz
   rw[e1,e3]at hz
   cases hw:Rel.writer ops 0 t with
   |none =>
    rw[oW hp hc (fun w hw'=>by rw[hw]at hw';cases hw')]at hz
    rw[g2.rest t fun j oj hj hd=>absurd hd (Rel.writer_none hw oj (List.mem_of_getElem? hj))]
    exact(he0 t z hz).to g2.to ok0
   |some w =>
    obtain⟨-,ow,how,hdw⟩:=Rel.writer_some hw
    have how':ops[w]?=some ow:=by simpa using how
    have hpw:=(hp.pos w (Rel.lt_of_get how')).1
    obtain⟨x,h1,h2⟩:=g2.vals w ow t how' (hall w) hdw fun _=>hpw
    rw[kJ hp hc hw hpw h1]at hz
    obtain rfl:=Option.some.inj hz
    exact h2
 have main:∀(fuel:Nat) (listed:Array Bool) (a':Act) (c1:Cfg) (m:Nat),listed.toList.count false≤fuel→kA T ops ord k xs Hs a c0 listed a' c1 m →
   (m=k∨∃(i:Nat) (o:Oper),ops[i]?=some o∧dD o=true∧k≤aS ord i∧listed.getD i true=true)→wpAnyIn (Wd r) n P .any ops.toArray Q fuel listed a' c1.w:=by
  intro fuel
  induction fuel with
  |zero =>
   intro listed a' c1 m hcnt D _
   exact⟨Rel.count_zero hcnt,done listed a' c1 m D (Rel.ready_nil D.lsize hp.ancs (Rel.count_zero hcnt))⟩
  |succ fuel ih =>
   intro listed a' c1 m hcnt D hb
   refine⟨fun hr=>done listed a' c1 m D (Rel.ready_nil D.lsize hp.ancs hr),fun i hi=>?_⟩
   obtain⟨hl,o,ho,hpr⟩:=Rel.ready_spec.1 hi
   have hcs:=Rel.count_set hl
   have hil:=Rel.lt_of_get ho
   obtain⟨hpl,hpo⟩:=hp.pos i hil
   obtain⟨o1,mm,ho1,hmm,hcm⟩:=hmg _ _ hpo
   obtain rfl:=Option.some.inj (ho.symm.trans ho1)
   have hbk:m=k∨(∃(j:Nat) (oj:Oper),ops[j]?=some oj∧dD oj=true∧k≤aS ord j∧(listed.setIfInBounds i true).getD j true=true):=hb.imp (fun h=>h) fun⟨j,oj,h1,h2,h3,h4⟩=>⟨j,oj,h1,h2,h3,Rel.getD_set_keeps h4⟩
   have anl:∀ j,anc (Rel.masks ops []) i j=true→listed.getD j true=true:=Rel.anc_listed hp.ancs D.closed i o ho fun p hpm=>Rel.getD_mono (hpr p hpm)
   cases hal:iQ o with
   |true =>
    obtain⟨t,d,hop,hgd,hd⟩:=kI hal
    have hkp:=(hp.al i o ho hal).1
    obtain⟨x,hx,hst⟩:=tr.tail _ _ hkp hmm
    have hmg':mm.guard=none:=by
     rcases hcm.guard with⟨-,h2⟩|⟨g,b,t',h1,-,-⟩
     ·exact h2
     ·rw[hgd]at h1;cases h1
    obtain⟨ty,hty,-,-⟩:=lE (by rw[hcm.op];exact hop) hmg' hst
    obtain⟨c2,hrun,w1,-,w3,w4,w5⟩:=ZK hT D.ok (a:=a') hty hop
    refine Rel.wpOpIn_ok (G:=fun _ _=>True) (R:=fun v w''=>v=.pointer (some ⟨c1.w.heap.size,0,none⟩)∧w''=c2.w) (Wd.fn r) (Wd.depth r) ho trivial ?_ ?_
    ·rw[if_pos (by simp[Region.wanted,hgd]),Oper.semAt_eq _ _ _ hcm.defer,hrun]
     exact⟨trivial,rfl,rfl⟩
    ·rintro v w'' - ⟨rfl,rfl⟩
     refine ih _ _ c2 m (by omega) (D.step hp hi ho w3 w4 (by rw[w1,D.heap]) (.inl ⟨rfl,fun hme=>?_⟩) (fun hh=>?_) (fun t' _ hop'=>?_)) hbk
     ·rw[sD hal]at hme;cases hme
     ·rw[hal]at hh;cases hh
     ·rw[hop]at hop'
      obtain rfl:=Op.alloc.inj hop'
      exact⟨_,rfl,Nat.le_refl _,D.to.size,w5.own,w5.off,w5.lies⟩
   |false =>
    have noal:∀(c3:Cfg) (v:Value) (t':TypeId),iQ o=true→o.op=.alloc t'→∃ g,v=.pointer (some ⟨g,0,none⟩)∧c1.w.heap.size≤g∧pD T c0.w.heap.size c3 t' g:=fun c3 v t' hh=>by rw[hal]at hh;cases hh
    by_cases hfree:g7 o.op=true∨aS ord i<k
    ·have hslot:=fun t (ht:t∈o.looksAt ops.toArray) z hz=>D.slot hp hc ok0 he0 hi ho (fun hme hk=>by
      rcases hfree with h1|h1
      ·simp[dD,h1]at hme
      ·omega) ht (z:=z) hz
     have hx:∃ x,xs[aS ord i]?=some x∧jY T q ⟨dA st.env (ms.take (aS ord i)) (xs.take (aS ord i)),c1.H⟩ mm=some x:=by
      by_cases hpu:g7 o.op=true
      ·have hpu':g7 mm.op=true:=by rw[hcm.op];exact hpu
       rcases Nat.lt_or_ge (aS ord i) k with hk|hk
       ·obtain⟨x,h1,h2⟩:=tr.free _ _ hk hmm
        refine⟨x,h1,?_⟩
        unfold jY at h2 ⊢
        simp only[CI hpu']at h2 ⊢
        rw[BV hpu' c1.H st.H]
        exact h2
       ·obtain⟨x,h1,h2⟩:=tr.tail _ _ hk hmm
        refine⟨x,h1,?_⟩
        unfold nN at h2
        unfold jY
        simp only[CI hpu',HM hpu']at h2 ⊢
        rw[BV hpu' c1.H (Hs (aS ord i))]
        cases hw:wants (dA st.env (ms.take (aS ord i)) (xs.take (aS ord i))) mm.guard with
        |none=>simp[hw]at h2
        |some b =>
         cases b with
         |false =>
          simp only[hw,Option.some.injEq,Prod.mk.injEq]at h2
          simp only[h2.1]
         |true =>
          simp only[hw]at h2 ⊢
          cases hq:aN T (dA st.env (ms.take (aS ord i)) (xs.take (aS ord i))) (Hs (aS ord i)) mm.op with
          |none=>simp[hq]at h2
          |some y =>
           simp only[hq,Option.map_some,Option.some.injEq,Prod.mk.injEq]at h2
           rw[h2.1]
      ·have hk:aS ord i<k:=hfree.resolve_left hpu
       have hme:dD o=true:=by simp[dD,hpu,hal]
       obtain⟨x,h1,h2⟩:=tr.free _ _ hk hmm
       refine⟨x,h1,?_⟩
       rw[D.heap]
       exact D.low hp hc tr hag ho hl hme hk hmm h1 h2 m D.km (Nat.le_refl _)
     obtain⟨x,hx,hst⟩:=hx
     refine Rel.wpOpIn_ok (G:=Grow) (R:=fun v w'=>R c1.ρ c1.own w' x v) (Wd.fn r) (Wd.depth r) ho (Rel.Grow.refl _) ?_ fun v w'' hG hR=>?_
     ·unfold jY at hst
      cases hwt:wants (dA st.env (ms.take (aS ord i)) (xs.take (aS ord i))) mm.guard with
      |none=>simp[hwt]at hst
      |some b =>
       have hwant:=sK (c:=c1) (a:=a') hcm (fun t z hgt hz=>by
        obtain⟨g,b',g1,ht'⟩:=hgt
        refine hslot t ?_ z hz
        unfold Oper.looksAt
        rw[g1]
        refine List.mem_append_right _ ?_
        have:(ops.toArray[g]?).bind (·.dst)=some t:=by simpa using ht'
        simp only[this,Option.toList_some,List.mem_singleton]) hwt
       rw[hwant]
       cases b with
       |false =>
        simp only[hwt,Option.some.injEq]at hst
        subst hst
        simp only[Bool.false_eq_true,if_false,R]
       |true =>
        simp only[hwt]at hst
        simp only[if_true]
        refine WE hT hQ (c:=c1) D.ok (st:=⟨dA st.env (ms.take (aS ord i)) (xs.take (aS ord i)),c1.H⟩) rfl ?_ hcm.defer (by rw[← hcm.op];exact hst)
        intro t z hz
        rw[iC]at hz
        split at hz
        ·rename_i hts
         refine hslot t ?_ z hz
         unfold Oper.looksAt
         exact List.mem_append_left _ hts
        ·cases hz
     ·obtain⟨ht2,ok2⟩:=D.ok.grow hG
      refine ih _ _ ⟨c1.ρ,c1.own,c1.H,w''⟩ m (by omega) (D.step hp hi ho ht2 ok2 D.heap (.inl ⟨rfl,fun hme=>?_⟩) (fun _=>⟨x,hx,hR⟩) (noal _ _)) hbk
      rcases hfree with h1|h1
      ·simp[dD,h1]at hme
      ·exact h1
    ·have hpu:¬ g7 o.op=true:=fun h1=>hfree (.inl h1)
     have hk:k≤aS ord i:=by
      rcases Nat.lt_or_ge (aS ord i) k with h1|h1
      ·exact absurd (.inr h1) hfree
      ·exact h1
     have hme:dD o=true:=by simp[dD,hpu,hal]
     have hmp:m≤aS ord i:=by
      rcases Nat.lt_or_ge (aS ord i) m with h1|h1
      ·have:=(D.mem i o ho hme hk).2 h1
       rw[hl]at this
       cases this
      ·exact h1
     obtain⟨c2,e2,D2⟩:=D.upto hp hc tr (aS ord i-m) m c1 (by omega) (fun p j oj hp1 hp2 hj hoj=>by
      obtain⟨j',h1,-,h3⟩:=hp.at_ p (by omega)
      rw[hj]at h1
      obtain rfl:=Option.some.inj h1
      have hkm:=D.km
      refine⟨?_,fun aj=>?_⟩
      ·cases mj:dD oj with
       |false=>rfl
       |true =>
        exfalso
        have h4:=anl j ((hp.mem i j o oj ho hoj hme mj hk (by omega)).resolve_right fun h=>by omega)
        have:=(D.mem j oj hoj mj (by omega)).1 h4
        omega
      ·obtain⟨-,u,ou,hou,mu,hju,hanc,hfirst,-⟩:=hp.al j oj hoj aj
       have h4:=hfirst i o ho hme (by omega)
       rcases Nat.lt_or_ge (aS ord u) (aS ord i)with h5|h5
       ·exfalso
        have h6:=anl u ((hp.mem i u o ou ho hou hme mu hk h5).resolve_right fun h=>by omega)
        have:=(D.mem u ou hou mu (by omega)).1 h6
        omega
       ·obtain rfl:=hp.inj (Rel.lt_of_get hou) hil (by omega)
        exact anl j hanc)
     rw[show m+(aS ord i-m)=aS ord i by omega]at D2
     rw[← e2]at noal ⊢
     have hslot:=fun t (ht:t∈o.looksAt ops.toArray) z hz=>D2.slot hp hc ok0 he0 hi ho (fun _ _=>rfl) ht (z:=z) hz
     obtain⟨x,hx,hst⟩:=tr.tail _ _ hk hmm
     have hb2:aS ord i+1=k∨(∃(j:Nat) (oj:Oper),ops[j]?=some oj∧dD oj=true∧k≤aS ord j∧(listed.setIfInBounds i true).getD j true=true):=.inr ⟨i,o,ho,hme,hk,by simp[Array.getD_eq_getD_getElem?,Rel.size_of_getD hl]⟩
     unfold nN at hst
     cases hwt:wants (dA st.env (ms.take (aS ord i)) (xs.take (aS ord i))) mm.guard with
     |none=>simp[hwt]at hst
     |some b =>
      have hwant:=sK (c:=c2) (a:=a') hcm (fun t z hgt hz=>by
       obtain⟨g,b',g1,ht'⟩:=hgt
       refine hslot t ?_ z hz
       unfold Oper.looksAt
       rw[g1]
       refine List.mem_append_right _ ?_
       have:(ops.toArray[g]?).bind (·.dst)=some t:=by simpa using ht'
       simp only[this,Option.toList_some,List.mem_singleton]) hwt
      unfold wpOpIn
      have ho':ops.toArray[i]?=some o:=by simpa using ho
      simp only[ho',hwant]
      cases b with
      |false =>
       simp only[hwt,Option.some.injEq,Prod.mk.injEq]at hst
       simp only[Bool.false_eq_true,if_false]
       refine⟨fun f _=>Wd.fn r f,ih _ _ c2 (aS ord i+1) (by omega) (D2.step hp hi ho (To.refl _) D2.ok (by rw[D2.heap,hst.2]) (.inr ⟨rfl,rfl,hme⟩) (fun _=>⟨x,hx,by rw[← hst.1,R]⟩) (noal _ _)) hb2⟩
      |true =>
       simp only[hwt]at hst
       simp only[if_true]
       rw[B4 (zG _ _),hcm.op]at hst
       refine aDs hT hO D2.ok (st:=⟨_,_⟩) D2.heap (fun t z hz=>?_) hcm.defer hst fun y c3 k1 k2 k3 k4=>ih _ _ c3 (aS ord i+1) (by omega) (D2.step hp hi ho k2 k3 k1 (.inr ⟨rfl,rfl,hme⟩) (fun _=>⟨x,hx,k4⟩) (noal _ _)) hb2
       simp only at hz
       rw[iC]at hz
       split at hz
       ·rename_i hts
        refine hslot t ?_ z hz
        unfold Oper.looksAt
        exact List.mem_append_left _ hts
       ·cases hz
 have:=main _ _ a c0 k (Rel.count_start ops.length) (LW hp tr ok0 (by rw[← hc0];exact hH)) (.inl rfl)
 rw[← hc0]at this
 simpa using this
end
end Go.Proofs.YtpdphobnchajbaaGreatDoor.Ev
namespace Go.Proofs.YtpdphobnchajbaaGreatDoor.Ev
open Go Go.RowKit
variable{Gd:GD}{P:Program}{T:Tb}
theorem tA{ρ:List Nat}{own:Nat→Prop}{w:World}{sl:List Nat}{rc:Loop}{vs:List A}{s p:Int}(hs:stV rc.state=.int .i64 s)(hp:peV rc.pending=.int .i64 p)(h:RL ρ own w vs (sl.map fun s=>rc.tmps.getD s undef)):RL ρ own w (.v (.int .i64 s)::.v (.int .i64 p)::vs) (aDS sl rc) :=
 RL.cons (by rw[R];exact hs) (RL.cons (by rw[R];exact hp) h)
theorem aEz{c:Cfg}(ok:Ok Gd c){rc:Loop}{nt:Nat}{ps sl:List Nat}{ma mb:M}{rest:List A}(hlk:Gd.lk nt ps sl ma mb rc)(hr:RL c.ρ c.own c.w rest (aDS sl rc)) :
  ∃ c',c'.H=c.H++[some ⟨0,.lrec nt ps sl ma mb::rest,true⟩]∧c'.w=c.w.alloc (.loop rc)∧To c c'∧Ok Gd c'∧c'.ρ[c.H.length]?=some c.w.heap.size∧c'.w.heap[c.w.heap.size]?=some (.loop rc) :=
 aOn ok fun _ _ _ k h=>.inr (.inr (.inl ⟨rc,nt,ps,sl,ma,mb,rest,h,rfl,hlk,RL.keep k _ _ hr⟩))
theorem NM{c:Cfg}(ok:Ok Gd c){b g:Nat}{k:Blk}{rc rc':Loop}{nt:Nat}{ps sl:List Nat}{ma mb:M}{rest:List A}(hb:c.H[b]?=some (some k))(hg:c.ρ[b]?=some g)(hcur:c.w.heap[g]?=some (.loop rc))
  (hlk:Gd.lk nt ps sl ma mb rc') (hr:RL c.ρ c.own c.w rest (aDS sl rc')) :
  ∃ c',c'.H=c.H.set b (some ⟨0,.lrec nt ps sl ma mb::rest,true⟩)∧c'.w=c.w.putObj g (.loop rc')∧To c c'∧Ok Gd c'∧c'.ρ=c.ρ :=
 aOw ok hb hg hcur (by simp[iS]) rfl fun _ _ _ k h=>.inr (.inr (.inl ⟨rc',nt,ps,sl,ma,mb,rest,h,rfl,hlk,RL.keep k _ _ hr⟩))
theorem DG{c:Cfg}(ok:Ok Gd c){b g:Nat}{rr:fK}(h:bN c.H b=some rr)(hg:c.ρ[b]?=some g) :
  ∃ k r,c.H[b]?=some (some k)∧c.w.heap[g]?=some (.loop r)∧Gd.lk rr.nt rr.ps rr.sl rr.a rr.b r∧stV r.state=.int .i64 rr.s∧peV r.pending=.int .i64 rr.p∧RL c.ρ c.own c.w rr.vs (rr.sl.map fun s=>r.tmps.getD s undef):=by
 unfold bN at h
 split at h
 ·rename_i k hk
  split at h
  ·rename_i nt ps sl a bd s p vs hcs
   simp only[Option.some.injEq]at h
   subst h
   rcases ok.blk b k.e k.cs k.whole g hk hg with⟨cur,xs,-,h2,-⟩|⟨es,n,-,h2,-⟩|⟨r,nt',ps',sl',a',b',rest,h1,h2,h3,h4⟩|⟨s',p',-,h2⟩
   ·rw[hcs,RL]at h2
    obtain⟨x,xs,-,h5,-⟩:=h2
    rw[R]at h5
    exact h5.elim
   ·rw[hcs,RL]at h2
    obtain⟨x,xs,-,h5,-⟩:=h2
    rw[R]at h5
    exact h5.elim
   ·rw[hcs]at h2
    simp only[List.cons.injEq,A.lrec.injEq]at h2
    obtain⟨⟨rfl,rfl,rfl,rfl,rfl⟩,rfl⟩:=h2
    simp only[aDS,RL,List.cons.injEq]at h4
    obtain⟨x,xs,⟨rfl,rfl⟩,h5,y,ys,⟨rfl,rfl⟩,h6,h7⟩:=h4
    rw[R]at h5 h6
    exact⟨k,r,hk,h1,h3,h5,h6,h7⟩
   ·rw[hcs]at h2
    simp at h2
  ·cases h
 ·cases h
structure pK(c0 c:Cfg)(D:Nat):Prop where
 new:c0.w.heap.size≤D
 lt:D<c.w.heap.size
 own:c.own D
 off:¬ img c.ρ c.H D
 lies:c.w.heap[D]?=some (.deferred (some []))
theorem pK.to{c0 c c':Cfg}{D:Nat}(h:pK c0 c D)(ht:To c c'):pK c0 c' D :=
 ⟨h.new,Nat.lt_of_lt_of_le h.lt ht.size,((ht.own D h.lt).2 h.own).resolve_right h.off,fun hi=>h.off (ht.img D h.lt hi),(ht.same D h.lt h.off).trans h.lies⟩
def aBD(D:Nat):Deferred:={ target:=.collected D,args:=#[] }
def f7(c0 c:Cfg)(ds:List Deferred):Prop:=∃ Ds:List Nat,Ds.Nodup∧ds=Ds.map aBD∧∀ D∈Ds,pK c0 c D
theorem f7.nil{c0 c:Cfg}:f7 c0 c []:=⟨[],List.nodup_nil,rfl,fun _ h=>by cases h⟩
theorem f7.to{c0 c c':Cfg}{ds:List Deferred}(h:f7 c0 c ds)(ht:To c c'):f7 c0 c' ds :=
 let ⟨Ds,h1,h2,h3⟩:=h;⟨Ds,h1,h2,fun D hD=>(h3 D hD).to ht⟩
theorem f7.app{c0 c1 c2:Cfg}{ds1 ds2:List Deferred}(h1:f7 c0 c1 ds1)(h01:To c0 c1)(h12:To c1 c2)(h2:f7 c1 c2 ds2):f7 c0 c2 (ds2++ds1):=by
 obtain⟨D1,a1,a2,a3⟩:=h1
 obtain⟨D2,b1,b2,b3⟩:=h2
 refine⟨D2++D1,?_,by rw[a2,b2,List.map_append],fun D hD=>?_⟩
 ·refine List.nodup_append.2 ⟨b1,a1,fun x hx y hy he=>?_⟩
  subst he
  have:=(b3 x hx).new
  have:=(a3 x hy).lt
  omega
 ·rcases List.mem_append.1 hD with h|h
  ·have:=b3 D h
   exact⟨Nat.le_trans h01.size this.new,this.lt,this.own,this.off,this.lies⟩
  ·exact(a3 D h).to h12
theorem aKl{c:Cfg}(ok:Ok Gd c):∃ c':Cfg,c'.w=c.w.alloc (.deferred (some []))∧c'.H=c.H∧c'.ρ=c.ρ∧To c c'∧Ok Gd c'∧pK c c' c.w.heap.size:=by
 have hsize:(c.w.alloc (.deferred (some []))).heap.size=c.w.heap.size+1:=World.size_alloc ..
 have hold:∀ g,g<c.w.heap.size→(c.w.alloc (.deferred (some []))).heap[g]?=c.w.heap[g]?:=fun g hg=>BI hg
 have hto:To c ⟨c.ρ,fun g=>c.own g∨g=c.w.heap.size,c.H,c.w.alloc (.deferred (some []))⟩ :=
  ⟨List.prefix_rfl,by simp[hsize],rfl,rfl,rfl,fun _ _ h=>h,fun g hg _=>hold g hg,fun g cur1 e1 fz1 h1=>⟨cur1,fz1,(hold g (Array.getElem?_eq_some_iff.1 h1).1).trans h1,rfl⟩,fun g es1 n1 h1=>⟨es1,n1,(hold g (Array.getElem?_eq_some_iff.1 h1).1).trans h1⟩,fun g o h1 _=>⟨o,(hold g (Array.getElem?_eq_some_iff.1 h1).1).trans h1,rfl⟩,
   fun g hg=>⟨fun h=>h.elim id fun h=>by omega,fun h=>.inl (.inl h)⟩⟩
 refine⟨⟨c.ρ,fun g=>c.own g∨g=c.w.heap.size,c.H,c.w.alloc (.deferred (some []))⟩,rfl,rfl,rfl,hto,⟨ok.len,?_,fun g hg=>.inl (ok.img g hg),fun b e cs wh g hb hg=>?_,ok.inj,hto.glob ok⟩,Nat.le_refl _,by simp[hsize],.inr rfl,fun hi=>?_,World.alloc_heap_new ..⟩
 ·rintro g (h|h)
  ·exact Nat.lt_of_lt_of_le (ok.lt g h) hto.size
  ·simp[hsize,h]
 ·exact(ok.blk b e cs wh g hb hg).keep (hto.keeps ok) (hold g (ok.lt_blk hb hg))
 ·have:=ok.lt _ (ok.img _ hi)
  omega
theorem G7{c0 c:Cfg}(ok:Ok Gd c)(ht:To c0 c){D:Nat}(h:pK c0 c D) :
  jN c.ρ c.own c.w c.ρ c.own (c.w.putObj D (.deferred none))∧Ok Gd ⟨c.ρ,c.own,c.H,c.w.putObj D (.deferred none)⟩∧To c0 ⟨c.ρ,c.own,c.H,c.w.putObj D (.deferred none)⟩ ∧
   ∀ D',D'≠D→pK c0 c D'→pK c0 ⟨c.ρ,c.own,c.H,c.w.putObj D (.deferred none)⟩ D':=by
 have hl:=h.lies
 have other:∀ g,g≠D→(c.w.putObj D (.deferred none)).heap[g]?=c.w.heap[g]?:=fun g hg=>World.putObj_heap_other hg
 have shape:∀(g:Nat) (cur:Array Value) (e:TypeId) (fz:Nat×Nat),c.w.heap[g]?=some (.cells cur e fz)→∃(cur':Array Value) (fz':Nat×Nat),(c.w.putObj D (.deferred none)).heap[g]?=some (.cells cur' e fz')∧cur'.size=cur.size:=fun g cur e fz hc=>⟨cur,fz,(other g (by rintro rfl;rw[hl]at hc;cases hc)).trans hc,rfl⟩
 have maps:∀(g:Nat) es n,c.w.heap[g]?=some (.map es n)→∃ es' n',(c.w.putObj D (.deferred none)).heap[g]?=some (.map es' n'):=fun g es n hc=>⟨es,n,(other g (by rintro rfl;rw[hl]at hc;cases hc)).trans hc⟩
 have kinds:∀(g:Nat) o,c.w.heap[g]?=some o→iS o≠0→∃ o',(c.w.putObj D (.deferred none)).heap[g]?=some o'∧iS o'=iS o:=fun g o hc h0=>⟨o,(other g (by rintro rfl;rw[hl]at hc;cases hc;exact h0 rfl)).trans hc,rfl⟩
 have hk:jN c.ρ c.own c.w c.ρ c.own (c.w.putObj D (.deferred none)):=⟨List.prefix_rfl,by simp,fun g _ ho=>⟨ho,other g (by rintro rfl;exact ho h.own)⟩,shape,maps,kinds⟩
 refine⟨hk,⟨ok.len,fun g hg=>by simpa using ok.lt g hg,ok.img,fun b e cs wh g hb hg=>?_,ok.inj,?_⟩,?_,fun D' hne h'=>⟨h'.new,by simpa using h'.lt,h'.own,h'.off,(other D' hne).trans h'.lies⟩⟩
 ·exact(ok.blk b e cs wh g hb hg).keep hk (other g (by rintro rfl;exact h.off ⟨b,_,hb,hg⟩))
 ·exact ok.glob.keep hk
 ·exact⟨ht.pre,by simpa using ht.size,ht.os,ht.tape,ht.output,ht.img,fun g hg hn=>(other g (by have:=h.new;omega)).trans (ht.same g hg hn),
   fun g cur e fz hc=>let ⟨c1,f1,h1,h2⟩:=ht.shape g cur e fz hc;let ⟨c2,f2,h3,h4⟩:=shape g c1 e f1 h1;⟨c2,f2,h3,h4.trans h2⟩,
   fun g es n hc=>let ⟨es1,n1,h1⟩:=ht.maps g es n hc;maps g es1 n1 h1,
   fun g o hc h0=>let ⟨o1,h1,h2⟩:=ht.kinds g o hc h0;let ⟨o2,h3,h4⟩:=kinds g o1 h1 (by rw[h2];exact h0);⟨o2,h3,h4.trans h2⟩,ht.own⟩
theorem yR{a b:Nat}(h:Nat.blt a b=true):a<b:=Nat.le_of_ble_eq_true h
theorem uA{ρ ρ':List Nat}(hp:ρ <+: ρ'){b g:Nat}(hb:b<ρ.length)(h:ρ'[b]?=some g):ρ[b]?=some g:=by
 obtain⟨t,rfl⟩:=hp
 rwa [List.getElem?_append_left hb]at h
mutual
theorem R.low{ρ ρ':List Nat}(hp:ρ <+: ρ'){own:Nat→Prop}{w:World}:∀(a:A) (y:Value),uX ρ.length a=true→R ρ' own w a y→R ρ own w a y
 |.v x,y,_,h=>by rw[R]at *;exact h
 |.agg cs,y,hl,h=>by
  rw[R]at *
  obtain⟨xs,h1,h2⟩:=h
  exact⟨xs,h1,RL.low hp cs xs (by simpa[uX]using hl) h2⟩
 |.tup cs,y,hl,h=>by
  rw[R]at *
  obtain⟨xs,h1,h2⟩:=h
  exact⟨xs,h1,RL.low hp cs xs (by simpa[uX]using hl) h2⟩
 |.ptr b off,y,hl,h=>by
  rw[R]at *
  obtain⟨g,h1,h2⟩:=h
  exact⟨g,uA hp (yR (by simpa[uX]using hl)) h1,h2⟩
 |.ref b off len sz,y,hl,h=>by
  rw[R]at *
  obtain⟨g,cap,cur,e,fz,h1,h2⟩:=h
  exact⟨g,cap,cur,e,fz,uA hp (yR (by simpa[uX]using hl)) h1,h2⟩
 |.sl len cs,y,_,h=>by rw[R]at *;exact h
 |.fp cs,y,_,h=>by rw[R]at *;exact h
 |.mp b,y,hl,h=>by
  rw[R]at *
  obtain⟨g,h1,h2⟩:=h
  exact⟨g,uA hp (yR (by simpa[uX]using hl)) h1,h2⟩
 |.mf cs,y,_,h=>by rw[R]at *;exact h
 |.clo f fs caps,y,hl,h=>by
  rw[R]at *
  simp only[uX,Bool.and_eq_true]at hl
  obtain⟨xs,ys,h1,h2,h3⟩:=h
  exact⟨xs,ys,h1,RL.low hp fs xs hl.1 h2,RL.low hp caps ys hl.2 h3⟩
 |.yl b,y,hl,h=>by
  rw[R]at *
  obtain⟨g,h1,h2⟩:=h
  exact⟨g,uA hp (yR (by simpa[uX]using hl)) h1,h2⟩
 |.lrec nt ps sl a b,y,_,h=>by rw[R]at h;exact h.elim
 |.it b,y,hl,h=>by
  rw[R]at *
  obtain⟨g,h1,h2⟩:=h
  exact⟨g,uA hp (yR (by simpa[uX]using hl)) h1,h2⟩
 |.its s p,y,_,h=>by rw[R]at h;exact h.elim
theorem RL.low{ρ ρ':List Nat}(hp:ρ <+: ρ'){own:Nat→Prop}{w:World}:∀(cs:List A) (ys:List Value),DT ρ.length cs=true→RL ρ' own w cs ys→RL ρ own w cs ys
 |[],ys,_,h=>by rw[RL]at *;exact h
 |c::cs,ys,hl,h=>by
  rw[RL]at *
  simp only[DT,Bool.and_eq_true]at hl
  obtain⟨x,xs,h1,h2,h3⟩:=h
  exact⟨x,xs,h1,R.low hp c x hl.1 h2,RL.low hp cs xs hl.2 h3⟩
end
theorem KL{n:Nat}:∀(k:Nat) (H:aG),ZJ n k H=true→∀(b:Nat) (blk:Blk),b<k→H[b]?=some (some blk)→DT n blk.cs=true
 |0,_,_,b,_,hb,_=>by omega
 |k+1,[],_,b,_,_,hg=>by simp at hg
 |k+1,o::H,h,b,blk,hb,hg=>by
  simp only[ZJ,Bool.and_eq_true]at h
  cases b with
  |zero =>
   simp only[List.getElem?_cons_zero,Option.some.injEq]at hg
   subst hg
   exact h.1
  |succ b=>exact KL k H h.2 b blk (by omega) (by simpa using hg)
theorem aLc{c c1:Cfg}(ok:Ok Gd c)(ht:To c c1)(ok1:Ok Gd c1){x:A}{v:Value}(hx:uX c.H.length x=true)(hH:ZJ c.H.length c.H.length c1.H=true)(hr:R c1.ρ c1.own c1.w x v) :
  To c ⟨c.ρ,c1.own,c1.H.take c.H.length,c1.w⟩∧Ok Gd ⟨c.ρ,c1.own,c1.H.take c.H.length,c1.w⟩∧R c.ρ c1.own c1.w x v:=by
 have hlen:=ok.len
 have himg:∀ g,img c.ρ (c1.H.take c.H.length) g→img c1.ρ c1.H g:=by
  rintro g ⟨b,k,hb,hg⟩
  refine⟨b,k,?_,iX ht.pre hg⟩
  rw[List.getElem?_take]at hb
  split at hb
  ·exact hb
  ·cases hb
 have hgl:Gl Gd c1.own c1.w:=ok1.glob
 refine⟨⟨List.prefix_rfl,ht.size,ht.os,ht.tape,ht.output,fun g hg hi=>ht.img g hg (himg g hi),ht.same,ht.shape,ht.maps,ht.kinds,ht.own⟩,⟨?_,ok1.lt,fun g hg=>ok1.img g (himg g hg),fun b e cs wh g hb hg=>?_,?_,hgl⟩,?_⟩
 ·show c.ρ.length=(c1.H.take c.H.length).length
  have h1:=ht.pre.length_le
  have h2:=ok1.len
  rw[List.length_take]
  omega
 ·simp only at hb hg
  have hlt:b<c.H.length:=by
   rw[← hlen]
   exact(List.getElem?_eq_some_iff.1 hg).1
  rw[List.getElem?_take,if_pos hlt]at hb
  have hl:=KL _ _ hH b _ hlt hb
  simp only at hl
  rw[← hlen]at hl
  rcases ok1.blk b e cs wh g hb (iX ht.pre hg)with⟨cur,xs,h1,h2,h3,h4⟩|⟨es,n,h1,h2,h3⟩|⟨r,nt,ps,sl,a,b',rest,h1,h2,h3,h4⟩|⟨s,p,h1,h2⟩
  ·exact .inl ⟨cur,xs,h1,RL.low ht.pre _ _ hl h2,h3,h4⟩
  ·exact .inr (.inl ⟨es,n,h1,RL.low ht.pre _ _ hl h2,h3⟩)
  ·refine .inr (.inr (.inl ⟨r,nt,ps,sl,a,b',rest,h1,h2,h3,RL.low ht.pre _ _ ?_ h4⟩))
   rw[h2]at hl
   simp only[DT,Bool.and_eq_true]at hl
   exact hl.2
  ·exact .inr (.inr (.inr ⟨s,p,h1,h2⟩))
 ·intro b b' k k' g hb hb' hg hg'
  simp only at hb hb' hg hg'
  rw[List.getElem?_take]at hb hb'
  split at hb
  ·split at hb'
   ·exact ok1.inj b b' k k' g hb hb' (iX ht.pre hg) (iX ht.pre hg')
   ·cases hb'
  ·cases hb
 ·rw[← hlen]at hx
  exact R.low ht.pre x v hx hr
end Go.Proofs.YtpdphobnchajbaaGreatDoor.Ev
