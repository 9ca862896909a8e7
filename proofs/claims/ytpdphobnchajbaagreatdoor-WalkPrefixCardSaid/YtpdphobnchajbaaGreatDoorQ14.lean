/- Tags: where a line lies in a cache; a free way. -/
import Derived.Test.YtpdphobnchajbaaGreatDoorQ09
set_option linter.unusedSimpArgs false
set_option linter.unusedVariables false
namespace Go.Proofs.YtpdphobnchajbaaGreatDoor.Ev
open Go Go.RowKit
set_option maxRecDepth 100000
abbrev eL(x:Ln):A:=.agg (cL x)
abbrev eC(k:Ca):A:=.agg (cC k)
attribute [go_sem] eL eC aY rK aGp aLU a5O maxLen Nat.sub_zero
section
variable{c h o s y:Int}
set_option maxHeartbeats 8000000
theorem xQ(x:Ln):EvQ Cx 223 [eL x] (Bo (decide (x.state=0))):=by
 refine aX a0P rfl (by simp[HI]) ?_
 by_cases h:x.state=0
 ·simp(disch:=omega)only[go_sem,simprocAttr]
 ·simp(disch:=omega)only[go_sem,simprocAttr]
theorem aQl(hk:OkG c h o s y){l:Int}(l1:0≤l)(l2:l≤255):EvQ Cx 222 [fR c h o s y,I8 l] (I64 (l % s)):=by
 have hV:=bCz hk l1 l2
 obtain⟨c1,c2,h1,h2,o1,o2,s1,s2,y1,y2⟩:=id hk
 have d1:=Int.emod_nonneg l (show s≠0 by omega)
 have d2:=Int.emod_lt_of_pos l (show 0<s by omega)
 refine aX aXI rfl (by simp[JG]) ?_
 simp(disch:=omega)only[go_sem,simprocAttr,aD aXp,QK.use hV]
def hZ(p:Ln→Bool)(W:Nat→Ln):Nat→Nat→Option Nat
 |_,0=>none
 |w,d+1=>if p (W w)=true then some w else hZ p W (w+1) d
theorem mG(p:Ln→Bool)(W:Nat→Ln):∀(d w:Nat) (r:Nat),hZ p W w d=some r→w≤r∧r<w+d∧p (W r)=true
 |0,w,r,h=>by cases h
 |d+1,w,r,h=>by
  unfold hZ at h
  split at h
  ·cases h
   exact⟨Nat.le_refl _,by omega,‹_›⟩
  ·obtain⟨h1,h2,h3⟩:=mG p W d (w+1) r h
   exact⟨by omega,by omega,h3⟩
def uZ(l:Int)(x:Ln):Bool:=!decide (x.state=0)&&decide (x.line=l)
def wV(x:Ln):Bool:=decide (x.state=0)
def Ca.find(k:Ca)(s y l:Int):Option Nat:=hZ (uZ l) (k.W (l % s).toNat) 0 y.toNat
def Ca.free(k:Ca)(s y l:Int):Option Nat:=hZ wV (k.W (l % s).toNat) 0 y.toNat
theorem PW(K:Ca){n:Nat}(hy:y=n)(hn:n≤4){q:Nat}(hq:q<4)(l:Int){KK:List It}{Q:Ex→Ev.St→Prop} :
  ∀(d w:Nat) (T:aG),w+d=n→(hZ (uZ l) (K.W q) w d=none→∀ T,dN Cx (.out 0) KK ⟨[(10,Bo false),(0,.yl 11),(2,.ptr 9 0),(3,.ptr 10 0),(8,I64 y),(9,I64 y)],some ⟨31,[I64 c,I64 h,I64 o,I64 s,I64 y],true⟩::some ⟨123,cC K,true⟩::some ⟨342,[I64 c,I64 h,I64 o,I64 s,I64 y],true⟩::some ⟨5,[I8 l],true⟩::some ⟨342,[I64 c,I64 h,I64 o,I64 s,I64 y],true⟩::some ⟨296,[.clo 302 [] [.ptr 3 0]],true⟩::some ⟨3,[I64 0],true⟩::some ⟨4,[Bo false],true⟩::some ⟨342,[I64 c,I64 h,I64 o,I64 s,I64 y],true⟩::some ⟨344,[.ptr 1 0],true⟩::some ⟨3,[I64 q],true⟩::some ⟨0,[.lrec 22 [16,17] [7,8,9] lT lR,I64 0,I64 0,.ptr 5 0,.ptr 6 0,.ptr 7 0],true⟩:: T⟩ Q) →
   (∀ w':Nat,hZ (uZ l) (K.W q) w d=some w'→∀(T:aG) (e:Env),dN Cx .back KK ⟨e,some ⟨31,[I64 c,I64 h,I64 o,I64 s,I64 y],true⟩::some ⟨123,cC K,true⟩::some ⟨342,[I64 c,I64 h,I64 o,I64 s,I64 y],true⟩::some ⟨5,[I8 l],true⟩::some ⟨342,[I64 c,I64 h,I64 o,I64 s,I64 y],true⟩::some ⟨296,[.clo 302 [] [.ptr 3 0]],true⟩::some ⟨3,[I64 w'],true⟩::some ⟨4,[Bo true],true⟩::some ⟨342,[I64 c,I64 h,I64 o,I64 s,I64 y],true⟩::some ⟨344,[.ptr 1 0],true⟩::some ⟨3,[I64 q],true⟩::some ⟨0,[.lrec 22 [16,17] [7,8,9] lT lR,I64 2,I64 1,.ptr 5 0,.ptr 6 0,.ptr 7 0],true⟩:: T⟩ Q) →
   bG Cx (.code (.loop oH)::KK) ⟨[(0,.yl 11),(2,.ptr 9 0),(3,.ptr 10 0),(8,I64 y),(9,I64 w)],some ⟨31,[I64 c,I64 h,I64 o,I64 s,I64 y],true⟩::some ⟨123,cC K,true⟩::some ⟨342,[I64 c,I64 h,I64 o,I64 s,I64 y],true⟩::some ⟨5,[I8 l],true⟩::some ⟨342,[I64 c,I64 h,I64 o,I64 s,I64 y],true⟩::some ⟨296,[.clo 302 [] [.ptr 3 0]],true⟩::some ⟨3,[I64 0],true⟩::some ⟨4,[Bo false],true⟩::some ⟨342,[I64 c,I64 h,I64 o,I64 s,I64 y],true⟩::some ⟨344,[.ptr 1 0],true⟩::some ⟨3,[I64 q],true⟩::some ⟨0,[.lrec 22 [16,17] [7,8,9] lT lR,I64 0,I64 0,.ptr 5 0,.ptr 6 0,.ptr 7 0],true⟩:: T⟩ Q:=by
 intro d
 induction d with
 |zero =>
  intro w T hw hE _
  obtain rfl:w=n:=by omega
  subst hy
  rw[aA]
  simp(disch:=omega)only[Int.lt_irrefl,go_sem,simprocAttr]
  exact hE rfl T
 |succ d ih =>
  intro w T hw hE hH
  subst hy
  have hw4:w<4:=by omega
  have hwn:w<n:=by omega
  have hd:=sF K hq hw4
  have hd':=tK K hq hw4
  rw[aA]
  have hf:=xQ (K.W q w)
  cases hh:uZ l (K.W q w)with
  |false =>
   have hfr:hZ (uZ l) (K.W q) w (d+1)=hZ (uZ l) (K.W q) (w+1) d:=by simp[hZ,hh]
   rw[hfr]at hE hH
   have nx:∀ T,bG Cx (.code (.loop oH)::KK) ⟨[(0,.yl 11),(2,.ptr 9 0),(3,.ptr 10 0),(8,I64 (n:Int)),(9,I64 ((w:Int)+1))],some ⟨31,[I64 c,I64 h,I64 o,I64 s,I64 (n:Int)],true⟩::some ⟨123,cC K,true⟩::some ⟨342,[I64 c,I64 h,I64 o,I64 s,I64 (n:Int)],true⟩::some ⟨5,[I8 l],true⟩::some ⟨342,[I64 c,I64 h,I64 o,I64 s,I64 (n:Int)],true⟩::some ⟨296,[.clo 302 [] [.ptr 3 0]],true⟩::some ⟨3,[I64 0],true⟩::some ⟨4,[Bo false],true⟩::some ⟨342,[I64 c,I64 h,I64 o,I64 s,I64 (n:Int)],true⟩::some ⟨344,[.ptr 1 0],true⟩::some ⟨3,[I64 q],true⟩::some ⟨0,[.lrec 22 [16,17] [7,8,9] lT lR,I64 0,I64 0,.ptr 5 0,.ptr 6 0,.ptr 7 0],true⟩:: T⟩ Q:=fun T=>by
    have:=ih (w+1) T (by omega) hE hH
    simpa only[Int.natCast_add,Int.natCast_one]using this
   unfold uZ at hh
   by_cases hs:(K.W q w).state=0
   ·rw[decide_eq_true hs]at hf
    simp(disch:=omega)only[go_sem,simprocAttr,dC,eU,bP,dK,bX,dM,bS,fK.blk,dY,bN,hd,aK ON N5,QK.use hf]
    rw[aB (l:=[0,2,3,8,9]) rfl]
    simp(disch:=omega)only[go_sem,simprocAttr]
    exact nx _
   ·have hl:¬ (K.W q w).line=l:=by
     intro e
     rw[decide_eq_false hs,decide_eq_true e]at hh
     cases hh
    rw[decide_eq_false hs]at hf
    simp(disch:=omega)only[go_sem,simprocAttr,dC,eU,bP,dK,bX,dM,bS,fK.blk,dY,bN,hd,aK ON N5,QK.use hf]
    rw[aB (l:=[0,2,3,8,9]) rfl]
    simp(disch:=omega)only[go_sem,simprocAttr]
    exact nx _
  |true =>
   have hfr:hZ (uZ l) (K.W q) w (d+1)=some w:=by simp[hZ,hh]
   rw[hfr]at hH
   unfold uZ at hh
   simp only[Bool.and_eq_true,Bool.not_eq_true',decide_eq_false_iff_not,decide_eq_true_eq]at hh
   obtain⟨hs,hl⟩:=hh
   rw[decide_eq_false hs]at hf
   simp(disch:=omega)only[go_sem,simprocAttr,dC,eU,bP,dK,bX,nF,bS,fK.blk,dY,bN,hd,aK ON N5,QK.use hf]
   exact hH w rfl _ _
theorem O3(K:Ca){n:Nat}(hy:y=n)(hn:n≤4){q:Nat}(hq:q<4){KK:List It}{Q:Ex→Ev.St→Prop} :
  ∀(d w:Nat) (T:aG),w+d=n→(hZ (wV) (K.W q) w d=none→∀ T,dN Cx (.out 0) KK ⟨[(10,Bo false),(0,.yl 10),(2,.ptr 8 0),(3,.ptr 9 0),(8,I64 y),(9,I64 y)],some ⟨31,[I64 c,I64 h,I64 o,I64 s,I64 y],true⟩::some ⟨123,cC K,true⟩::some ⟨342,[I64 c,I64 h,I64 o,I64 s,I64 y],true⟩::some ⟨342,[I64 c,I64 h,I64 o,I64 s,I64 y],true⟩::some ⟨296,[.v (.func (.func 223) #[] #[])],true⟩::some ⟨3,[I64 0],true⟩::some ⟨4,[Bo false],true⟩::some ⟨342,[I64 c,I64 h,I64 o,I64 s,I64 y],true⟩::some ⟨344,[.ptr 1 0],true⟩::some ⟨3,[I64 q],true⟩::some ⟨0,[.lrec 22 [16,17] [7,8,9] lT lR,I64 0,I64 0,.ptr 4 0,.ptr 5 0,.ptr 6 0],true⟩:: T⟩ Q) →
   (∀ w':Nat,hZ (wV) (K.W q) w d=some w'→∀(T:aG) (e:Env),dN Cx .back KK ⟨e,some ⟨31,[I64 c,I64 h,I64 o,I64 s,I64 y],true⟩::some ⟨123,cC K,true⟩::some ⟨342,[I64 c,I64 h,I64 o,I64 s,I64 y],true⟩::some ⟨342,[I64 c,I64 h,I64 o,I64 s,I64 y],true⟩::some ⟨296,[.v (.func (.func 223) #[] #[])],true⟩::some ⟨3,[I64 w'],true⟩::some ⟨4,[Bo true],true⟩::some ⟨342,[I64 c,I64 h,I64 o,I64 s,I64 y],true⟩::some ⟨344,[.ptr 1 0],true⟩::some ⟨3,[I64 q],true⟩::some ⟨0,[.lrec 22 [16,17] [7,8,9] lT lR,I64 2,I64 1,.ptr 4 0,.ptr 5 0,.ptr 6 0],true⟩:: T⟩ Q) →
   bG Cx (.code (.loop oH)::KK) ⟨[(0,.yl 10),(2,.ptr 8 0),(3,.ptr 9 0),(8,I64 y),(9,I64 w)],some ⟨31,[I64 c,I64 h,I64 o,I64 s,I64 y],true⟩::some ⟨123,cC K,true⟩::some ⟨342,[I64 c,I64 h,I64 o,I64 s,I64 y],true⟩::some ⟨342,[I64 c,I64 h,I64 o,I64 s,I64 y],true⟩::some ⟨296,[.v (.func (.func 223) #[] #[])],true⟩::some ⟨3,[I64 0],true⟩::some ⟨4,[Bo false],true⟩::some ⟨342,[I64 c,I64 h,I64 o,I64 s,I64 y],true⟩::some ⟨344,[.ptr 1 0],true⟩::some ⟨3,[I64 q],true⟩::some ⟨0,[.lrec 22 [16,17] [7,8,9] lT lR,I64 0,I64 0,.ptr 4 0,.ptr 5 0,.ptr 6 0],true⟩:: T⟩ Q:=by
 intro d
 induction d with
 |zero =>
  intro w T hw hE _
  obtain rfl:w=n:=by omega
  subst hy
  rw[aA]
  simp(disch:=omega)only[Int.lt_irrefl,go_sem,simprocAttr]
  exact hE rfl T
 |succ d ih =>
  intro w T hw hE hH
  subst hy
  have hw4:w<4:=by omega
  have hwn:w<n:=by omega
  have hd:=sF K hq hw4
  have hd':=tK K hq hw4
  rw[aA]
  have hf:=xQ (K.W q w)
  cases hh:wV (K.W q w)with
  |false =>
   have hfr:hZ wV (K.W q) w (d+1)=hZ wV (K.W q) (w+1) d:=by simp[hZ,hh]
   rw[hfr]at hE hH
   have nx:∀ T,bG Cx (.code (.loop oH)::KK) ⟨[(0,.yl 10),(2,.ptr 8 0),(3,.ptr 9 0),(8,I64 (n:Int)),(9,I64 ((w:Int)+1))],some ⟨31,[I64 c,I64 h,I64 o,I64 s,I64 (n:Int)],true⟩::some ⟨123,cC K,true⟩::some ⟨342,[I64 c,I64 h,I64 o,I64 s,I64 (n:Int)],true⟩::some ⟨342,[I64 c,I64 h,I64 o,I64 s,I64 (n:Int)],true⟩::some ⟨296,[.v (.func (.func 223) #[] #[])],true⟩::some ⟨3,[I64 0],true⟩::some ⟨4,[Bo false],true⟩::some ⟨342,[I64 c,I64 h,I64 o,I64 s,I64 (n:Int)],true⟩::some ⟨344,[.ptr 1 0],true⟩::some ⟨3,[I64 q],true⟩::some ⟨0,[.lrec 22 [16,17] [7,8,9] lT lR,I64 0,I64 0,.ptr 4 0,.ptr 5 0,.ptr 6 0],true⟩:: T⟩ Q:=fun T=>by
    have:=ih (w+1) T (by omega) hE hH
    simpa only[Int.natCast_add,Int.natCast_one]using this
   rw[show decide ((K.W q w).state=0)=false from hh]at hf
   simp(disch:=omega)only[go_sem,simprocAttr,dC,eU,bP,dK,bX,dM,bS,fK.blk,dY,bN,hd,QK.use hf]
   rw[aB (l:=[0,2,3,8,9]) rfl]
   simp(disch:=omega)only[go_sem,simprocAttr]
   exact nx _
  |true =>
   have hfr:hZ wV (K.W q) w (d+1)=some w:=by simp[hZ,hh]
   rw[hfr]at hH
   rw[show decide ((K.W q w).state=0)=true from hh]at hf
   simp(disch:=omega)only[go_sem,simprocAttr,dC,eU,bP,dK,bX,nF,bS,fK.blk,dY,bN,hd,QK.use hf]
   exact hH w rfl _ _
theorem xZ(hk:OkG c h o s y)(k:Ca){l:Int}(l0:0≤l)(l1:l≤255) :
  EvQ Cx 188 [fR c h o s y,eC k,I8 l] (.tup [I64 (l % s),I64 ((k.find s y l).getD 0:Nat),Bo (k.find s y l).isSome]):=by
 have hR:=gQ hk
 have hS:=aQl hk l0 l1
 obtain⟨c1,c2,h1,h2,o1,o2,s1,s2,y1,y2⟩:=id hk
 have d1:=Int.emod_nonneg l (show s≠0 by omega)
 have d2:=Int.emod_lt_of_pos l (show 0<s by omega)
 unfold Ca.find
 obtain⟨q,hq⟩:∃ q:Nat,l % s=q:=⟨(l % s).toNat,by omega⟩
 rw[hq]at hS ⊢
 rw[Int.toNat_natCast]
 have hq4:q<4:=by omega
 obtain⟨n,rfl⟩:∃ n:Nat,y=n:=⟨y.toNat,by omega⟩
 rw[Int.toNat_natCast]
 refine aX a07 rfl (by simp[MG]) ?_
 simp(disch:=omega)only[go_sem,simprocAttr,lM,oI,gP,aK aEE aB7,aK PI NN,aK aRD aP2,QK.use hR,QK.use hS]
 rw[aP QL NE]
 simp(disch:=omega)only[go_sem,simprocAttr]
 rw[aB (l:=[0,2,3,8,9]) rfl]
 simp(disch:=omega)only[go_sem,simprocAttr]
 refine PW k (n:=n) rfl (by omega) hq4 l n 0 [] (by omega) (fun hf T=>?_) (fun w' hf T e=>?_)
 ·rw[hf]
  simp(disch:=omega)only[go_sem,simprocAttr,aW,kO,cX,bN,pending,exOfN,Option.getD_none,Option.isSome_none]
  first|done|rfl|exact⟨_,rfl⟩|done
 ·rw[hf]
  simp(disch:=omega)only[go_sem,simprocAttr,aE,qF,cX,bN,pending,exOfN,Option.getD_some,Option.isSome_some]
  first|done|rfl|exact⟨_,rfl⟩|done
theorem JO(hk:OkG c h o s y)(k:Ca){l:Int}(l0:0≤l)(l1:l≤255) :
  EvQ Cx 181 [fR c h o s y,eC k,I8 l] (.tup [I64 ((k.free s y l).getD 0:Nat),Bo (k.free s y l).isSome]):=by
 have hR:=gQ hk
 have hS:=aQl hk l0 l1
 obtain⟨c1,c2,h1,h2,o1,o2,s1,s2,y1,y2⟩:=id hk
 have d1:=Int.emod_nonneg l (show s≠0 by omega)
 have d2:=Int.emod_lt_of_pos l (show 0<s by omega)
 unfold Ca.free
 obtain⟨q,hq⟩:∃ q:Nat,l % s=q:=⟨(l % s).toNat,by omega⟩
 rw[hq]at hS ⊢
 rw[Int.toNat_natCast]
 have hq4:q<4:=by omega
 obtain⟨n,rfl⟩:∃ n:Nat,y=n:=⟨y.toNat,by omega⟩
 rw[Int.toNat_natCast]
 refine aX aX6 rfl (by simp[MW]) ?_
 simp(disch:=omega)only[go_sem,simprocAttr,lM,oI,gP,aK aEE aB7,aK PI NN,QK.use hR,QK.use hS]
 rw[aP QL NE]
 simp(disch:=omega)only[go_sem,simprocAttr]
 rw[aB (l:=[0,2,3,8,9]) rfl]
 simp(disch:=omega)only[go_sem,simprocAttr]
 refine O3 k (n:=n) rfl (by omega) hq4 n 0 [] (by omega) (fun hf T=>?_) (fun w' hf T e=>?_)
 ·rw[hf]
  simp(disch:=omega)only[go_sem,simprocAttr,aW,kO,cX,bN,pending,exOfN,Option.getD_none,Option.isSome_none]
  first|done|rfl|exact⟨_,rfl⟩|done
 ·rw[hf]
  simp(disch:=omega)only[go_sem,simprocAttr,aE,qF,cX,bN,pending,exOfN,Option.getD_some,Option.isSome_some]
  first|done|rfl|exact⟨_,rfl⟩|done
def EX:Ln:=⟨0,0,0,false,⟨0,0,0,0⟩⟩
theorem aCF(hk:OkG c h o s y)(k:Ca){l:Int}(l0:0≤l)(l1:l≤255) :
  EvQ Cx 114 [fR c h o s y,eC k,I8 l] (match k.find s y l with|some w=>.tup [eL (k.W (l % s).toNat w),Bo true]|none=>.tup [eL EX,Bo false]):=by
 have hF:=xZ hk k l0 l1
 have hk':=hk
 obtain⟨c1,c2,h1,h2,o1,o2,s1,s2,y1,y2⟩:=id hk
 have d1:=Int.emod_nonneg l (show s≠0 by omega)
 have d2:=Int.emod_lt_of_pos l (show 0<s by omega)
 unfold Ca.find at *
 obtain⟨q,hq⟩:∃ q:Nat,l % s=q:=⟨(l % s).toNat,by omega⟩
 rw[hq]at hF ⊢
 rw[Int.toNat_natCast]at hF ⊢
 have hta:List.take 160 (cC k)=cC k:=List.take_of_length_le (by rw[aY];omega)
 refine aX a1J rfl (by simp[JD]) ?_
 cases hr:hZ (uZ l) (k.W q) 0 y.toNat with
 |none =>
  rw[hr]at hF
  simp only[Option.getD_none,Option.isSome_none]at hF
  simp(disch:=omega)only[EX,hta,go_sem,simprocAttr,QK.use hF]
 |some w =>
  rw[hr]at hF
  simp only[Option.getD_some,Option.isSome_some]at hF
  obtain⟨-,hw,-⟩:=mG _ _ _ _ _ hr
  have hq4:q<4:=by omega
  have hw4:w<4:=by omega
  have hd:=sF k hq4 hw4
  have hd':=tK k hq4 hw4
  simp(disch:=omega)only[hta,hd,Nat.zero_add,go_sem,simprocAttr,QK.use hF]
theorem aLn(hk:OkG c h o s y)(k:Ca){l:Int}(l0:0≤l)(l1:l≤255) :
  EvQ Cx 301 [fR c h o s y,eC k,I8 l] (match k.find s y l with|some w=>eC (k.setW (l % s).toNat w EX)|none=>eC k):=by
 have hF:=xZ hk k l0 l1
 have hk':=hk
 obtain⟨c1,c2,h1,h2,o1,o2,s1,s2,y1,y2⟩:=id hk
 have d1:=Int.emod_nonneg l (show s≠0 by omega)
 have d2:=Int.emod_lt_of_pos l (show 0<s by omega)
 unfold Ca.find at *
 obtain⟨q,hq⟩:∃ q:Nat,l % s=q:=⟨(l % s).toNat,by omega⟩
 rw[hq]at hF ⊢
 rw[Int.toNat_natCast]at hF ⊢
 have hta:∀ k,List.take 160 (cC k)=cC k:=fun k=>List.take_of_length_le (by rw[aY];omega)
 refine aX aUM rfl (by simp[KA]) ?_
 cases hr:hZ (uZ l) (k.W q) 0 y.toNat with
 |none =>
  rw[hr]at hF
  simp only[Option.getD_none,Option.isSome_none]at hF
  simp(disch:=omega)only[hta,List.flatten_cons,List.flatten_nil,go_sem,simprocAttr,QK.use hF]
 |some w =>
  rw[hr]at hF
  simp only[Option.getD_some,Option.isSome_some]at hF
  obtain⟨-,hw,-⟩:=mG _ _ _ _ _ hr
  have hq4:q<4:=by omega
  have hw4:w<4:=by omega
  have hd:=sF k hq4 hw4
  have hs:=DS k hq4 hw4 EX
  simp only[EX,cL]at hs
  simp(disch:=omega)only[hta,hs,Nat.zero_add,List.flatten_cons,List.flatten_nil,go_sem,simprocAttr,QK.use hF]
  first|done|rfl|done
end
set_option maxHeartbeats 16000000
section
variable{c h o s y:Int}
theorem aIu(hk:OkG c h o s y){l:Nat}(hl:l<6):∃ v,EvQ Cx 45 [fR c h o s y,I8 l] v∧∃ L:List Nat,(∀ i∈L,i<6)∧L.length≤6∧(L=[]∧v=.v (.slice none 0 0)∨v=.sl L.length (L.map fun i=>I8 (i:Nat))):=by
 have hV:=gU hk
 have h0:=wW hk (l:=0) (by omega) (by omega)
 have h1:=wW hk (l:=1) (by omega) (by omega)
 have h2:=wW hk (l:=2) (by omega) (by omega)
 have h3:=wW hk (l:=3) (by omega) (by omega)
 have h4:=wW hk (l:=4) (by omega) (by omega)
 have h5:=wW hk (l:=5) (by omega) (by omega)
 obtain⟨-,-,-,-,o1,o2,-⟩:=id hk
 obtain rfl|rfl|rfl|rfl:o=1∨o=2∨o=3∨o=4:=by omega
 all_goals
  obtain rfl|rfl|rfl|rfl|rfl|rfl:l=0∨l=1∨l=2∨l=3∨l=4∨l=5:=by omega
  all_goals
   refine cA a4g rfl (by simp[ZT]) ?_
   simp(disch:=omega)only[go_sem,simprocAttr,lM,oI,gP,bN,pending,exOfN,QK.use hV,aK a7c a8x]
   rw[aP aRP aSe]
   simp(disch:=omega)only[go_sem,simprocAttr]
   iterate 7 (rw[aA];simp(disch:=omega)only[go_sem,simprocAttr,aW,kO,cX,dC,eU,bP,dK,bX,dM,bS,fK.blk,dY,bN,maxLen,QK.use h0,QK.use h1,QK.use h2,QK.use h3,QK.use h4,QK.use h5])
   first|exact⟨[0],by decide,by decide,.inr rfl⟩|exact⟨[1],by decide,by decide,.inr rfl⟩|exact⟨[2],by decide,by decide,.inr rfl⟩|exact⟨[3],by decide,by decide,.inr rfl⟩|exact⟨[4],by decide,by decide,.inr rfl⟩|exact⟨[5],by decide,by decide,.inr rfl⟩|exact⟨[0,1],by decide,by decide,.inr rfl⟩|exact⟨[2,3],by decide,by decide,.inr rfl⟩|exact⟨[4,5],by decide,by decide,.inr rfl⟩|exact⟨[0,1,2],by decide,by decide,.inr rfl⟩|exact⟨[3,4,5],by decide,by decide,.inr rfl⟩|exact⟨[0,1,2,3],by decide,by decide,.inr rfl⟩|exact⟨[],by decide,by decide,by simp⟩|done
end
end Go.Proofs.YtpdphobnchajbaaGreatDoor.Ev
