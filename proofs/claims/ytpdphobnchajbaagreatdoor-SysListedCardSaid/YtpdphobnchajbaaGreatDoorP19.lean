/- Tags: where a line lies in a cache; a free way. -/
import Derived.Test.YtpdphobnchajbaaGreatDoorP14
set_option linter.unusedSimpArgs false
set_option linter.unusedVariables false
namespace Go.Proofs.YtpdphobnchajbaaGreatDoor.Ev
open Go Go.RowKit
set_option maxRecDepth 100000
abbrev eL(x:Ln):A:=.agg (cL x)
abbrev eC(k:Ca):A:=.agg (cC k)
attribute [go_sem] eL eC cC_len cC_one cC_shut cC_flat cC_fz maxLen Nat.sub_zero
section
variable{c h o s y:Int}
set_option maxHeartbeats 8000000
theorem free_ev(x:Ln):EvQ Cx 223 [eL x] (Bo (decide (x.state=0))):=by
 refine evQ_of CxB223 rfl (by simp[fn223]) ?_
 by_cases h:x.state=0
 ·simp(disch:=omega)only[go_sem,simprocAttr]
 ·simp(disch:=omega)only[go_sem,simprocAttr]
theorem fset(hk:OkG c h o s y){l:Int}(l1:0≤l)(l2:l≤255):EvQ Cx 222 [encG c h o s y,I8 l] (I64 (l % s)):=by
 have hV:=gset hk l1 l2
 obtain⟨c1,c2,h1,h2,o1,o2,s1,s2,y1,y2⟩:=id hk
 have d1:=Int.emod_nonneg l (show s≠0 by omega)
 have d2:=Int.emod_lt_of_pos l (show 0<s by omega)
 refine evQ_of CxB222 rfl (by simp[fn222]) ?_
 simp(disch:=omega)only[go_sem,simprocAttr,passK_shut CxP284,QK.use hV]
def findP(p:Ln→Bool)(W:Nat→Ln):Nat→Nat→Option Nat
 |_,0=>none
 |w,d+1=>if p (W w)=true then some w else findP p W (w+1) d
theorem findP_lt(p:Ln→Bool)(W:Nat→Ln):∀(d w:Nat) (r:Nat),findP p W w d=some r→w≤r∧r<w+d∧p (W r)=true
 |0,w,r,h=>by cases h
 |d+1,w,r,h=>by
  unfold findP at h
  split at h
  ·cases h
   exact⟨Nat.le_refl _,by omega,‹_›⟩
  ·obtain⟨h1,h2,h3⟩:=findP_lt p W d (w+1) r h
   exact⟨by omega,by omega,h3⟩
def hitB(l:Int)(x:Ln):Bool:=!decide (x.state=0)&&decide (x.line=l)
def freeB(x:Ln):Bool:=decide (x.state=0)
def Ca.find(k:Ca)(s y l:Int):Option Nat:=findP (hitB l) (k.W (l % s).toNat) 0 y.toNat
def Ca.free(k:Ca)(s y l:Int):Option Nat:=findP freeB (k.W (l % s).toNat) 0 y.toNat
theorem findH_loop(K:Ca){n:Nat}(hy:y=n)(hn:n≤4){q:Nat}(hq:q<4)(l:Int){KK:List It}{Q:Ex→Ev.St→Prop} :
  ∀(d w:Nat) (T:Heap),w+d=n→(findP (hitB l) (K.W q) w d=none→∀ T,UnwK Cx (.out 0) KK ⟨[(10,Bo false),(0,.yl 11),(2,.ptr 9 0),(3,.ptr 10 0),(8,I64 y),(9,I64 y)],some ⟨31,[I64 c,I64 h,I64 o,I64 s,I64 y],true⟩::some ⟨123,cC K,true⟩::some ⟨342,[I64 c,I64 h,I64 o,I64 s,I64 y],true⟩::some ⟨5,[I8 l],true⟩::some ⟨342,[I64 c,I64 h,I64 o,I64 s,I64 y],true⟩::some ⟨296,[.clo 302 [] [.ptr 3 0]],true⟩::some ⟨3,[I64 0],true⟩::some ⟨4,[Bo false],true⟩::some ⟨342,[I64 c,I64 h,I64 o,I64 s,I64 y],true⟩::some ⟨344,[.ptr 1 0],true⟩::some ⟨3,[I64 q],true⟩::some ⟨0,[.lrec 22 [16,17] [7,8,9] m221_l0 m221_l1,I64 0,I64 0,.ptr 5 0,.ptr 6 0,.ptr 7 0],true⟩:: T⟩ Q) →
   (∀ w':Nat,findP (hitB l) (K.W q) w d=some w'→∀(T:Heap) (e:Env),UnwK Cx .back KK ⟨e,some ⟨31,[I64 c,I64 h,I64 o,I64 s,I64 y],true⟩::some ⟨123,cC K,true⟩::some ⟨342,[I64 c,I64 h,I64 o,I64 s,I64 y],true⟩::some ⟨5,[I8 l],true⟩::some ⟨342,[I64 c,I64 h,I64 o,I64 s,I64 y],true⟩::some ⟨296,[.clo 302 [] [.ptr 3 0]],true⟩::some ⟨3,[I64 w'],true⟩::some ⟨4,[Bo true],true⟩::some ⟨342,[I64 c,I64 h,I64 o,I64 s,I64 y],true⟩::some ⟨344,[.ptr 1 0],true⟩::some ⟨3,[I64 q],true⟩::some ⟨0,[.lrec 22 [16,17] [7,8,9] m221_l0 m221_l1,I64 2,I64 1,.ptr 5 0,.ptr 6 0,.ptr 7 0],true⟩:: T⟩ Q) →
   RunK Cx (.code (.loop m285_l0)::KK) ⟨[(0,.yl 11),(2,.ptr 9 0),(3,.ptr 10 0),(8,I64 y),(9,I64 w)],some ⟨31,[I64 c,I64 h,I64 o,I64 s,I64 y],true⟩::some ⟨123,cC K,true⟩::some ⟨342,[I64 c,I64 h,I64 o,I64 s,I64 y],true⟩::some ⟨5,[I8 l],true⟩::some ⟨342,[I64 c,I64 h,I64 o,I64 s,I64 y],true⟩::some ⟨296,[.clo 302 [] [.ptr 3 0]],true⟩::some ⟨3,[I64 0],true⟩::some ⟨4,[Bo false],true⟩::some ⟨342,[I64 c,I64 h,I64 o,I64 s,I64 y],true⟩::some ⟨344,[.ptr 1 0],true⟩::some ⟨3,[I64 q],true⟩::some ⟨0,[.lrec 22 [16,17] [7,8,9] m221_l0 m221_l1,I64 0,I64 0,.ptr 5 0,.ptr 6 0,.ptr 7 0],true⟩:: T⟩ Q:=by
 intro d
 induction d with
 |zero =>
  intro w T hw hE _
  obtain rfl:w=n:=by omega
  subst hy
  rw[runK_loop]
  simp(disch:=omega)only[Int.lt_irrefl,go_sem,simprocAttr]
  exact hE rfl T
 |succ d ih =>
  intro w T hw hE hH
  subst hy
  have hw4:w<4:=by omega
  have hwn:w<n:=by omega
  have hd:=cC_way K hq hw4
  have hd':=cC_way' K hq hw4
  rw[runK_loop]
  have hf:=free_ev (K.W q w)
  cases hh:hitB l (K.W q w)with
  |false =>
   have hfr:findP (hitB l) (K.W q) w (d+1)=findP (hitB l) (K.W q) (w+1) d:=by simp[findP,hh]
   rw[hfr]at hE hH
   have nx:∀ T,RunK Cx (.code (.loop m285_l0)::KK) ⟨[(0,.yl 11),(2,.ptr 9 0),(3,.ptr 10 0),(8,I64 (n:Int)),(9,I64 ((w:Int)+1))],some ⟨31,[I64 c,I64 h,I64 o,I64 s,I64 (n:Int)],true⟩::some ⟨123,cC K,true⟩::some ⟨342,[I64 c,I64 h,I64 o,I64 s,I64 (n:Int)],true⟩::some ⟨5,[I8 l],true⟩::some ⟨342,[I64 c,I64 h,I64 o,I64 s,I64 (n:Int)],true⟩::some ⟨296,[.clo 302 [] [.ptr 3 0]],true⟩::some ⟨3,[I64 0],true⟩::some ⟨4,[Bo false],true⟩::some ⟨342,[I64 c,I64 h,I64 o,I64 s,I64 (n:Int)],true⟩::some ⟨344,[.ptr 1 0],true⟩::some ⟨3,[I64 q],true⟩::some ⟨0,[.lrec 22 [16,17] [7,8,9] m221_l0 m221_l1,I64 0,I64 0,.ptr 5 0,.ptr 6 0,.ptr 7 0],true⟩:: T⟩ Q:=fun T=>by
    have:=ih (w+1) T (by omega) hE hH
    simpa only[Int.natCast_add,Int.natCast_one]using this
   unfold hitB at hh
   by_cases hs:(K.W q w).state=0
   ·rw[decide_eq_true hs]at hf
    simp(disch:=omega)only[go_sem,simprocAttr,anyK_yl,ylK_in,roundK_some,asgR_go,asgR_some,rndR_go,rndR_some,RecA.blk,zipE,recOf,hd,passK_in CxB302 CxP302,QK.use hf]
    rw[loop_norm (l:=[0,2,3,8,9]) rfl]
    simp(disch:=omega)only[go_sem,simprocAttr]
    exact nx _
   ·have hl:¬ (K.W q w).line=l:=by
     intro e
     rw[decide_eq_false hs,decide_eq_true e]at hh
     cases hh
    rw[decide_eq_false hs]at hf
    simp(disch:=omega)only[go_sem,simprocAttr,anyK_yl,ylK_in,roundK_some,asgR_go,asgR_some,rndR_go,rndR_some,RecA.blk,zipE,recOf,hd,passK_in CxB302 CxP302,QK.use hf]
    rw[loop_norm (l:=[0,2,3,8,9]) rfl]
    simp(disch:=omega)only[go_sem,simprocAttr]
    exact nx _
  |true =>
   have hfr:findP (hitB l) (K.W q) w (d+1)=some w:=by simp[findP,hh]
   rw[hfr]at hH
   unfold hitB at hh
   simp only[Bool.and_eq_true,Bool.not_eq_true',decide_eq_false_iff_not,decide_eq_true_eq]at hh
   obtain⟨hs,hl⟩:=hh
   rw[decide_eq_false hs]at hf
   simp(disch:=omega)only[go_sem,simprocAttr,anyK_yl,ylK_in,roundK_some,asgR_go,asgR_some,rndR_back,rndR_some,RecA.blk,zipE,recOf,hd,passK_in CxB302 CxP302,QK.use hf]
   exact hH w rfl _ _
theorem findF_loop(K:Ca){n:Nat}(hy:y=n)(hn:n≤4){q:Nat}(hq:q<4){KK:List It}{Q:Ex→Ev.St→Prop} :
  ∀(d w:Nat) (T:Heap),w+d=n→(findP (freeB) (K.W q) w d=none→∀ T,UnwK Cx (.out 0) KK ⟨[(10,Bo false),(0,.yl 10),(2,.ptr 8 0),(3,.ptr 9 0),(8,I64 y),(9,I64 y)],some ⟨31,[I64 c,I64 h,I64 o,I64 s,I64 y],true⟩::some ⟨123,cC K,true⟩::some ⟨342,[I64 c,I64 h,I64 o,I64 s,I64 y],true⟩::some ⟨342,[I64 c,I64 h,I64 o,I64 s,I64 y],true⟩::some ⟨296,[.v (.func (.func 223) #[] #[])],true⟩::some ⟨3,[I64 0],true⟩::some ⟨4,[Bo false],true⟩::some ⟨342,[I64 c,I64 h,I64 o,I64 s,I64 y],true⟩::some ⟨344,[.ptr 1 0],true⟩::some ⟨3,[I64 q],true⟩::some ⟨0,[.lrec 22 [16,17] [7,8,9] m221_l0 m221_l1,I64 0,I64 0,.ptr 4 0,.ptr 5 0,.ptr 6 0],true⟩:: T⟩ Q) →
   (∀ w':Nat,findP (freeB) (K.W q) w d=some w'→∀(T:Heap) (e:Env),UnwK Cx .back KK ⟨e,some ⟨31,[I64 c,I64 h,I64 o,I64 s,I64 y],true⟩::some ⟨123,cC K,true⟩::some ⟨342,[I64 c,I64 h,I64 o,I64 s,I64 y],true⟩::some ⟨342,[I64 c,I64 h,I64 o,I64 s,I64 y],true⟩::some ⟨296,[.v (.func (.func 223) #[] #[])],true⟩::some ⟨3,[I64 w'],true⟩::some ⟨4,[Bo true],true⟩::some ⟨342,[I64 c,I64 h,I64 o,I64 s,I64 y],true⟩::some ⟨344,[.ptr 1 0],true⟩::some ⟨3,[I64 q],true⟩::some ⟨0,[.lrec 22 [16,17] [7,8,9] m221_l0 m221_l1,I64 2,I64 1,.ptr 4 0,.ptr 5 0,.ptr 6 0],true⟩:: T⟩ Q) →
   RunK Cx (.code (.loop m285_l0)::KK) ⟨[(0,.yl 10),(2,.ptr 8 0),(3,.ptr 9 0),(8,I64 y),(9,I64 w)],some ⟨31,[I64 c,I64 h,I64 o,I64 s,I64 y],true⟩::some ⟨123,cC K,true⟩::some ⟨342,[I64 c,I64 h,I64 o,I64 s,I64 y],true⟩::some ⟨342,[I64 c,I64 h,I64 o,I64 s,I64 y],true⟩::some ⟨296,[.v (.func (.func 223) #[] #[])],true⟩::some ⟨3,[I64 0],true⟩::some ⟨4,[Bo false],true⟩::some ⟨342,[I64 c,I64 h,I64 o,I64 s,I64 y],true⟩::some ⟨344,[.ptr 1 0],true⟩::some ⟨3,[I64 q],true⟩::some ⟨0,[.lrec 22 [16,17] [7,8,9] m221_l0 m221_l1,I64 0,I64 0,.ptr 4 0,.ptr 5 0,.ptr 6 0],true⟩:: T⟩ Q:=by
 intro d
 induction d with
 |zero =>
  intro w T hw hE _
  obtain rfl:w=n:=by omega
  subst hy
  rw[runK_loop]
  simp(disch:=omega)only[Int.lt_irrefl,go_sem,simprocAttr]
  exact hE rfl T
 |succ d ih =>
  intro w T hw hE hH
  subst hy
  have hw4:w<4:=by omega
  have hwn:w<n:=by omega
  have hd:=cC_way K hq hw4
  have hd':=cC_way' K hq hw4
  rw[runK_loop]
  have hf:=free_ev (K.W q w)
  cases hh:freeB (K.W q w)with
  |false =>
   have hfr:findP freeB (K.W q) w (d+1)=findP freeB (K.W q) (w+1) d:=by simp[findP,hh]
   rw[hfr]at hE hH
   have nx:∀ T,RunK Cx (.code (.loop m285_l0)::KK) ⟨[(0,.yl 10),(2,.ptr 8 0),(3,.ptr 9 0),(8,I64 (n:Int)),(9,I64 ((w:Int)+1))],some ⟨31,[I64 c,I64 h,I64 o,I64 s,I64 (n:Int)],true⟩::some ⟨123,cC K,true⟩::some ⟨342,[I64 c,I64 h,I64 o,I64 s,I64 (n:Int)],true⟩::some ⟨342,[I64 c,I64 h,I64 o,I64 s,I64 (n:Int)],true⟩::some ⟨296,[.v (.func (.func 223) #[] #[])],true⟩::some ⟨3,[I64 0],true⟩::some ⟨4,[Bo false],true⟩::some ⟨342,[I64 c,I64 h,I64 o,I64 s,I64 (n:Int)],true⟩::some ⟨344,[.ptr 1 0],true⟩::some ⟨3,[I64 q],true⟩::some ⟨0,[.lrec 22 [16,17] [7,8,9] m221_l0 m221_l1,I64 0,I64 0,.ptr 4 0,.ptr 5 0,.ptr 6 0],true⟩:: T⟩ Q:=fun T=>by
    have:=ih (w+1) T (by omega) hE hH
    simpa only[Int.natCast_add,Int.natCast_one]using this
   rw[show decide ((K.W q w).state=0)=false from hh]at hf
   simp(disch:=omega)only[go_sem,simprocAttr,anyK_yl,ylK_in,roundK_some,asgR_go,asgR_some,rndR_go,rndR_some,RecA.blk,zipE,recOf,hd,QK.use hf]
   rw[loop_norm (l:=[0,2,3,8,9]) rfl]
   simp(disch:=omega)only[go_sem,simprocAttr]
   exact nx _
  |true =>
   have hfr:findP freeB (K.W q) w (d+1)=some w:=by simp[findP,hh]
   rw[hfr]at hH
   rw[show decide ((K.W q w).state=0)=true from hh]at hf
   simp(disch:=omega)only[go_sem,simprocAttr,anyK_yl,ylK_in,roundK_some,asgR_go,asgR_some,rndR_back,rndR_some,RecA.blk,zipE,recOf,hd,QK.use hf]
   exact hH w rfl _ _
theorem find_ev(hk:OkG c h o s y)(k:Ca){l:Int}(l0:0≤l)(l1:l≤255) :
  EvQ Cx 188 [encG c h o s y,eC k,I8 l] (.tup [I64 (l % s),I64 ((k.find s y l).getD 0:Nat),Bo (k.find s y l).isSome]):=by
 have hR:=gright_yes hk
 have hS:=fset hk l0 l1
 obtain⟨c1,c2,h1,h2,o1,o2,s1,s2,y1,y2⟩:=id hk
 have d1:=Int.emod_nonneg l (show s≠0 by omega)
 have d2:=Int.emod_lt_of_pos l (show 0<s by omega)
 unfold Ca.find
 obtain⟨q,hq⟩:∃ q:Nat,l % s=q:=⟨(l % s).toNat,by omega⟩
 rw[hq]at hS ⊢
 rw[Int.toNat_natCast]
 have hq4:q<4:=by omega
 obtain⟨n,rfl⟩:∃ n:Nat,y=n:=⟨y.toNat,by omega⟩
 rw[Int.toNat_natCast]
 refine evQ_of CxB188 rfl (by simp[fn188]) ?_
 simp(disch:=omega)only[go_sem,simprocAttr,runK_rf,rfK_fn,newRecA,passK_in CxB221 CxP221,passK_in CxB224 CxP224,passK_in CxB229 CxP229,QK.use hR,QK.use hS]
 rw[callK_in CxB285 CxP285]
 simp(disch:=omega)only[go_sem,simprocAttr]
 rw[loop_norm (l:=[0,2,3,8,9]) rfl]
 simp(disch:=omega)only[go_sem,simprocAttr]
 refine findH_loop k (n:=n) rfl (by omega) hq4 l n 0 [] (by omega) (fun hf T=>?_) (fun w' hf T e=>?_)
 ·rw[hf]
  simp(disch:=omega)only[go_sem,simprocAttr,endK_go,exK_go,pendK_some,recOf,pending,exOfN,Option.getD_none,Option.isSome_none]
  first|done|rfl|exact⟨_,rfl⟩|done
 ·rw[hf]
  simp(disch:=omega)only[go_sem,simprocAttr,endK_back,exK_back,pendK_some,recOf,pending,exOfN,Option.getD_some,Option.isSome_some]
  first|done|rfl|exact⟨_,rfl⟩|done
theorem tfree_ev(hk:OkG c h o s y)(k:Ca){l:Int}(l0:0≤l)(l1:l≤255) :
  EvQ Cx 181 [encG c h o s y,eC k,I8 l] (.tup [I64 ((k.free s y l).getD 0:Nat),Bo (k.free s y l).isSome]):=by
 have hR:=gright_yes hk
 have hS:=fset hk l0 l1
 obtain⟨c1,c2,h1,h2,o1,o2,s1,s2,y1,y2⟩:=id hk
 have d1:=Int.emod_nonneg l (show s≠0 by omega)
 have d2:=Int.emod_lt_of_pos l (show 0<s by omega)
 unfold Ca.free
 obtain⟨q,hq⟩:∃ q:Nat,l % s=q:=⟨(l % s).toNat,by omega⟩
 rw[hq]at hS ⊢
 rw[Int.toNat_natCast]
 have hq4:q<4:=by omega
 obtain⟨n,rfl⟩:∃ n:Nat,y=n:=⟨y.toNat,by omega⟩
 rw[Int.toNat_natCast]
 refine evQ_of CxB181 rfl (by simp[fn181]) ?_
 simp(disch:=omega)only[go_sem,simprocAttr,runK_rf,rfK_fn,newRecA,passK_in CxB221 CxP221,passK_in CxB224 CxP224,QK.use hR,QK.use hS]
 rw[callK_in CxB285 CxP285]
 simp(disch:=omega)only[go_sem,simprocAttr]
 rw[loop_norm (l:=[0,2,3,8,9]) rfl]
 simp(disch:=omega)only[go_sem,simprocAttr]
 refine findF_loop k (n:=n) rfl (by omega) hq4 n 0 [] (by omega) (fun hf T=>?_) (fun w' hf T e=>?_)
 ·rw[hf]
  simp(disch:=omega)only[go_sem,simprocAttr,endK_go,exK_go,pendK_some,recOf,pending,exOfN,Option.getD_none,Option.isSome_none]
  first|done|rfl|exact⟨_,rfl⟩|done
 ·rw[hf]
  simp(disch:=omega)only[go_sem,simprocAttr,endK_back,exK_back,pendK_some,recOf,pending,exOfN,Option.getD_some,Option.isSome_some]
  first|done|rfl|exact⟨_,rfl⟩|done
def noLn:Ln:=⟨0,0,0,false,⟨0,0,0,0⟩⟩
theorem get_ev(hk:OkG c h o s y)(k:Ca){l:Int}(l0:0≤l)(l1:l≤255) :
  EvQ Cx 114 [encG c h o s y,eC k,I8 l] (match k.find s y l with|some w=>.tup [eL (k.W (l % s).toNat w),Bo true]|none=>.tup [eL noLn,Bo false]):=by
 have hF:=find_ev hk k l0 l1
 have hk':=hk
 obtain⟨c1,c2,h1,h2,o1,o2,s1,s2,y1,y2⟩:=id hk
 have d1:=Int.emod_nonneg l (show s≠0 by omega)
 have d2:=Int.emod_lt_of_pos l (show 0<s by omega)
 unfold Ca.find at *
 obtain⟨q,hq⟩:∃ q:Nat,l % s=q:=⟨(l % s).toNat,by omega⟩
 rw[hq]at hF ⊢
 rw[Int.toNat_natCast]at hF ⊢
 have hta:List.take 160 (cC k)=cC k:=List.take_of_length_le (by rw[cC_len];omega)
 refine evQ_of CxB114 rfl (by simp[fn114]) ?_
 cases hr:findP (hitB l) (k.W q) 0 y.toNat with
 |none =>
  rw[hr]at hF
  simp only[Option.getD_none,Option.isSome_none]at hF
  simp(disch:=omega)only[noLn,hta,go_sem,simprocAttr,QK.use hF]
 |some w =>
  rw[hr]at hF
  simp only[Option.getD_some,Option.isSome_some]at hF
  obtain⟨-,hw,-⟩:=findP_lt _ _ _ _ _ hr
  have hq4:q<4:=by omega
  have hw4:w<4:=by omega
  have hd:=cC_way k hq4 hw4
  have hd':=cC_way' k hq4 hw4
  simp(disch:=omega)only[hta,hd,Nat.zero_add,go_sem,simprocAttr,QK.use hF]
theorem drop_ev(hk:OkG c h o s y)(k:Ca){l:Int}(l0:0≤l)(l1:l≤255) :
  EvQ Cx 301 [encG c h o s y,eC k,I8 l] (match k.find s y l with|some w=>eC (k.setW (l % s).toNat w noLn)|none=>eC k):=by
 have hF:=find_ev hk k l0 l1
 have hk':=hk
 obtain⟨c1,c2,h1,h2,o1,o2,s1,s2,y1,y2⟩:=id hk
 have d1:=Int.emod_nonneg l (show s≠0 by omega)
 have d2:=Int.emod_lt_of_pos l (show 0<s by omega)
 unfold Ca.find at *
 obtain⟨q,hq⟩:∃ q:Nat,l % s=q:=⟨(l % s).toNat,by omega⟩
 rw[hq]at hF ⊢
 rw[Int.toNat_natCast]at hF ⊢
 have hta:∀ k,List.take 160 (cC k)=cC k:=fun k=>List.take_of_length_le (by rw[cC_len];omega)
 refine evQ_of CxB301 rfl (by simp[fn301]) ?_
 cases hr:findP (hitB l) (k.W q) 0 y.toNat with
 |none =>
  rw[hr]at hF
  simp only[Option.getD_none,Option.isSome_none]at hF
  simp(disch:=omega)only[hta,List.flatten_cons,List.flatten_nil,go_sem,simprocAttr,QK.use hF]
 |some w =>
  rw[hr]at hF
  simp only[Option.getD_some,Option.isSome_some]at hF
  obtain⟨-,hw,-⟩:=findP_lt _ _ _ _ _ hr
  have hq4:q<4:=by omega
  have hw4:w<4:=by omega
  have hd:=cC_way k hq4 hw4
  have hs:=cC_setW k hq4 hw4 noLn
  simp only[noLn,cL]at hs
  simp(disch:=omega)only[hta,hs,Nat.zero_add,List.flatten_cons,List.flatten_nil,go_sem,simprocAttr,QK.use hF]
  first|done|rfl|done
end
end Go.Proofs.YtpdphobnchajbaaGreatDoor.Ev
