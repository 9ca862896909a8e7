/- A state of a system. -/
import Derived.Test.YtpdphobnchajbaaGreatDoorQ09
import Derived.Test.YtpdphobnchajbaaGreatDoorQ13
import Derived.Test.YtpdphobnchajbaaGreatDoorQ25
import Derived.Test.YtpdphobnchajbaaGreatDoorQ18
set_option linter.unusedSimpArgs false
set_option linter.unusedVariables false
namespace Go.Proofs.YtpdphobnchajbaaGreatDoor.Ev
open Go Go.RowKit
set_option maxRecDepth 100000
abbrev cK(c:Pl.Core):List A:=[I8 c.pc,I8 (c.g 0),I8 (c.g 1),I8 (c.g 2),I8 (c.g 3),I8 (c.g 4),I8 (c.g 5),I8 (c.g 6),I8 (c.g 7),gI c.buf,Bo c.waits,Bo c.drain]
attribute [go_sem] cK
structure Sy where
 cores:List Pl.Core
 caches:List Ca
 homes:Nat→Dr
 net:List Mg
def Sy.dirs(s:Sy):List A:=cells cD [s.homes 0,s.homes 1,s.homes 2,s.homes 3,s.homes 4,s.homes 5]
def iB(vc vk:A)(s:Sy)(vn:A):List A:=vc::vk::(s.dirs++[vn])
def cSy(s:Sy):List A:=iB (.sl s.cores.length (cells cK s.cores)) (.sl s.caches.length (cells cC s.caches)) s (.sl s.net.length (cells cM s.net))
structure Sy.Raw(s:Sy):Prop where
 lc:s.cores.length≤140737488351232
 lk:s.caches.length≤140737488351232
 ln:s.net.length≤140737488351232
 core:∀ c∈s.cores,c.Ok∧c.buf.length≤140737488351232
 cache:∀ k∈s.caches,k.Ok
 home:∀ i,i<6→(s.homes i).Ok
 net:∀ m∈s.net,m.Ok
structure Sy.Fit(w:Wo)(s:Sy):Prop where
 raw:s.Raw
 lc:(s.cores.length:Int)=w.c
 lk:(s.caches.length:Int)=w.c
 ln:s.net.length≤64
 buf:∀ c∈s.cores,c.buf.length≤255
end Go.Proofs.YtpdphobnchajbaaGreatDoor.Ev
namespace Go.Proofs.YtpdphobnchajbaaGreatDoor.Pl
theorem AG(n:Int):0≤Go.IntKind.u8.wrap n∧Go.IntKind.u8.wrap n≤255:=by
 rw[Ev.wrap8];omega
theorem aYA(fn a b:Int):u8 (mov fn a b):=by
 unfold mov
 split
 ·exact AG _
 ·split
  ·exact AG _
  ·split
   ·exact AG _
   ·unfold u8;omega
theorem PA{g:Nat→Int}(hg:∀ i,u8 (g i)){d v:Int}(hv:u8 v)(i:Nat):u8 (set g d v i):=by
 unfold set
 split
 ·exact hv
 ·exact hg i
theorem MH{loc:Int}:∀{l:List (Int×Int)} {v:Int},(∀ p∈l,u8 p.1∧u8 p.2)→young loc l=some v→u8 v
 |[],v,_,h=>by simp[young]at h
 |p::l,v,hl,h=>by
  rw[young]at h
  cases hy:young loc l with
  |some y =>
   rw[hy]at h
   simp only[Option.some.injEq]at h
   subst h
   exact MH (fun q hq=>hl q (.tail _ hq)) hy
  |none =>
   rw[hy]at h
   simp only at h
   split at h
   ·simp only[Option.some.injEq]at h
    subst h
    exact(hl p (.head _)).2
   ·cases h
theorem C2(l:List Ins){pc n:Int}(h:0≤pc)(h':0≤n):u8 (on l pc n):=by
 unfold on u8
 omega
theorem s5{g:Nat→Int}(hg:∀ i,u8 (g i)){r:Bool}{n:Int}(hn:u8 n):u8 (value g r n):=by
 unfold value
 split
 ·split
  ·exact hg _
  ·unfold u8;omega
 ·exact hn
theorem aMT{x:Ins}(xo:x.Ok)(l:List Ins){c:Core}(ok:c.Ok):(loc1 x l c).Ok:=by
 have p:=ok.pc
 have s:=xo.skip
 unfold u8 at p s
 unfold loc1
 split
 ·exact⟨C2 l p.1 (by omega),PA ok.g (aYA _ _ _),ok.buf⟩
 split
 ·exact⟨C2 l p.1 (by split<;>omega),ok.g,ok.buf⟩
 split
 ·exact⟨C2 l p.1 (by omega),ok.g,ok.buf⟩
 split
 ·refine⟨C2 l p.1 (by omega),ok.g,fun q hq=>?_⟩
  rcases List.mem_append.1 hq with h|h
  ·exact ok.buf q h
  ·rw[List.mem_singleton.1 h]
   exact⟨xo.loc,s5 ok.g xo.na⟩
 split
 ·refine⟨C2 l p.1 (by omega),?_,ok.buf⟩
  intro i
  cases hv:young x.loc c.buf with
  |some v=>exact PA ok.g (MH ok.buf hv) i
  |none=>exact ok.g i
 ·exact ok
theorem loc_ok{l:List Ins}(hI:∀ x∈l,x.Ok)(b:Int){c:Core}(ok:c.Ok):(loc l b c).Ok:=by
 unfold loc
 split
 ·split
  ·rename_i x hx
   exact aMT (hI x (List.mem_of_getElem? hx)) l ok
  ·exact ok
 ·exact ok
theorem loc_buf{l:List Ins}{b:Int}(hb:b≤12){c:Core}(hc:c.buf.length≤255):(loc l b c).buf.length≤255:=by
 unfold loc
 split
 ·rename_i hn
  split
  ·rename_i x hx
   unfold loc1
   split
   ·exact hc
   split
   ·exact hc
   split
   ·exact hc
   split
   ·rename_i h3 h8 h7 h2
    unfold next at hn
    rw[hx]at hn
    simp only[h2]at hn
    simp only[show ¬ ((2:Int)=3∨(2:Int)=8)by omega,show ¬ ((2:Int)=7)by omega,if_false,if_true]at hn
    split at hn
    ·unfold free at hn
     have:c.buf.length<b:=by
      cases hd:decide ((c.buf.length:Int)<b)with
      |true=>exact of_decide_eq_true hd
      |false=>rw[hd]at hn;simp at hn
     simp only[List.length_append,List.length_cons,List.length_nil]
     omega
    ·unfold free at hn
     split at hn<;>omega
   split
   ·exact hc
   ·exact hc
  ·exact hc
 ·exact hc
theorem back_ok{l:List Ins}(hI:∀ x∈l,x.Ok){c:Core}(ok:c.Ok){old:Int}(ho:u8 old):(back l c old).Ok:=by
 have p:=ok.pc
 unfold u8 at p
 unfold back
 split
 ·exact⟨ok.pc,ok.g,fun q hq=>ok.buf q (List.mem_of_mem_drop hq)⟩
 split
 ·refine⟨C2 l p.1 (by omega),?_,ok.buf⟩
  intro i
  cases l[c.pc.toNat]? with
  |some x =>
   show u8 ((if x.op=2 then c.g else set c.g x.dst old) i)
   split
   ·exact ok.g i
   ·exact PA ok.g ho i
  |none=>exact ok.g i
 ·exact ok
theorem back_buf(l:List Ins){c:Core}(hc:c.buf.length≤255)(old:Int):(back l c old).buf.length≤255:=by
 unfold back
 split
 ·simp only[List.length_drop]
  omega
 split
 ·exact hc
 ·exact hc
end Go.Proofs.YtpdphobnchajbaaGreatDoor.Pl
namespace Go.Proofs.YtpdphobnchajbaaGreatDoor.Ev
open Go Go.RowKit
set_option maxRecDepth 100000
set_option maxHeartbeats 16000000
def aKN(v:A)(l:List Pl.Ins):Prop:=(l=[]∧v=.v (.slice none 0 0))∨v=eY l
theorem aD0(nt vw rp b:Int)(ev:Bool)(pc:Int)(g:Nat→Int)(bs:List (Int×Int))(w d:Bool)(p1:0≤pc)(p2:pc≤255)(hb:(bs.length:Int)≤1152921504606846976) :
  EvQ Cx 105 [.v (.slice none 0 0),W0 nt vw rp b ev,mH pc g (gI bs) w d] (I8 (Pl.next [] b ⟨pc,g,bs,w,d⟩)):=by
 refine aX aBH rfl (by simp[CE]) ?_
 have hE:bs.isEmpty=((bs.length:Int)==0):=by
  cases bs with
  |nil=>rfl
  |cons p l =>
   simp only[List.isEmpty_cons,List.length_cons]
   rw[cZ (by omega)]
 have hn:([]:List Pl.Ins)[pc.toNat]?=none:=rfl
 simp(disch:=omega)only[hn,hE,eZ,Pl.next,Pl.free,go_sem,simprocAttr]
theorem MX{v:A}{l:List Pl.Ins}(hv:aKN v l)(hl:l.length≤140737488351232)(nt vw rp b:Int)(ev:Bool){c:Pl.Core}(ok:c.Ok)(hb:c.buf.length≤255) :
  EvQ Cx 105 [v,W0 nt vw rp b ev,iZ c] (I8 (Pl.next l b c)):=by
 have p:=ok.pc
 unfold Pl.u8 at p
 obtain⟨pc,g,bs,w,d⟩:=c
 simp only at p hb
 rcases hv with⟨rfl,rfl⟩|rfl
 ·exact aD0 nt vw rp b ev pc g bs w d p.1 p.2 (by omega)
 ·exact RK l (by omega) nt vw rp b ev pc g bs w d p.1 p.2 (by omega)
theorem aWg{l:List Pl.Ins}(hl:l.length≤140737488351232)(hI:∀ x∈l,x.Ok)(nt vw rp b:Int)(ev:Bool){c:Pl.Core}(ok:c.Ok)(hb:c.buf.length≤255)(hn:Pl.next l b c=2) :
  EvQ Cx 108 [eY l,W0 nt vw rp b ev,iZ c] (iZ (Pl.loc l b c)):=by
 have p:=ok.pc
 unfold Pl.u8 at p
 have hg:=ok.g
 obtain⟨pc,g,bs,w,d⟩:=c
 simp only at p hb hg
 exact aGY l (by omega) nt vw rp b ev pc g bs w d p.1 p.2 (by omega) hg hI hn
theorem aOY{l:List Pl.Ins}(hl:l.length≤140737488351232)(hI:∀ x∈l,x.Ok){c:Pl.Core}(ok:c.Ok):EvQ Cx 110 [eY l,iZ c] (aOy (Pl.ask l c)):=by
 have p:=ok.pc
 unfold Pl.u8 at p
 have hg:=ok.g
 obtain⟨pc,g,bs,w,d⟩:=c
 exact a0E l (by omega) hI pc g bs w d p.1 p.2 hg
theorem YD(pc:Int)(g:Nat→Int)(bs:List (Int×Int))(p1:0≤pc)(p2:pc≤255)(hb:(bs.length:Int)≤1000000)(pco pk pl pa pb old new:Int):EvQ Cx 187 [.v (.slice none 0 0),mH pc g (gI bs) true false,.agg [I8 pco,I8 pk,I8 pl,I8 pa,I8 pb,I8 old,I8 new]] (iZ (Pl.back [] ⟨pc,g,bs,true,false⟩ old)):=by
 refine aX pU rfl (by simp[pB]) ?_
 have hn:([]:List Pl.Ins)[pc.toNat]?=none:=rfl
 simp(disch:=omega)only[hn,Pl.on,dH,Int.toNat_natCast,cH,c7,cB,cG,eG,dB,Nat.min_self,Nat.le_refl,maxLen,kC,hY,Pl.back,go_sem,simprocAttr,aK fE fB,aK jO jW]
theorem Z7(l:List Pl.Ins)(pc:Int)(g:Nat→Int)(bs:List (Int×Int))(p1:0≤pc)(p2:pc≤255)(hl:(l.length:Int)≤pc)(hb:(bs.length:Int)≤1000000)(pco pk pl pa pb old new:Int):EvQ Cx 187 [eY l,mH pc g (gI bs) true false,.agg [I8 pco,I8 pk,I8 pl,I8 pa,I8 pb,I8 old,I8 new]] (iZ (Pl.back l ⟨pc,g,bs,true,false⟩ old)):=by
 refine aX pU rfl (by simp[pB]) ?_
 have hn:l[pc.toNat]?=none:=List.getElem?_eq_none (by omega)
 simp(disch:=omega)only[hn,Pl.on,dH,Int.toNat_natCast,cH,c7,cB,cG,eG,dB,Nat.min_self,Nat.le_refl,maxLen,kC,hY,Pl.back,go_sem,simprocAttr,aK fE fB,aK jO jW]<;>((try simp only[List.cons.injEq,A.v.injEq,A.sl.injEq,List.length_cons,List.length_nil,Value.int.injEq,and_true,true_and]);(first|omega|done))
theorem YI(pc:Int)(g:Nat→Int)(bs:List (Int×Int))(hb:(bs.length:Int)≤1000000)(pco pk pl pa pb old new:Int):EvQ Cx 187 [.v (.slice none 0 0),mH pc g (gI bs) false false,.agg [I8 pco,I8 pk,I8 pl,I8 pa,I8 pb,I8 old,I8 new]] (mH pc g (gI bs) false false):=by
 refine aX pU rfl (by simp[pB]) ?_
 simp(disch:=omega)only[dH,Int.toNat_natCast,cH,c7,cB,cG,eG,dB,Nat.min_self,Nat.le_refl,maxLen,kC,go_sem,simprocAttr,aK fE fB]
theorem aNm{v:A}{l:List Pl.Ins}(hv:aKN v l)(pc:Int)(g:Nat→Int)(w:Bool)(pco pk pl pa pb old new:Int):EvQ Cx 187 [v,mH pc g (gI []) w true,.agg [I8 pco,I8 pk,I8 pl,I8 pa,I8 pb,I8 old,I8 new]] (mH pc g (gI []) w false):=by
 rcases hv with⟨rfl,rfl⟩|rfl
 all_goals
  refine aX pU rfl (by simp[pB]) ?_
  simp(disch:=omega)only[Nat.min_self,Nat.le_refl,maxLen,kC,gI,dR,List.flatMap_nil,Int.cast_ofNat_Int,go_sem,simprocAttr,aK fE fB]
theorem aFs(pc:Int)(g:Nat→Int)(p:Int×Int)(t:List (Int×Int))(w:Bool)(hb:(t.length:Int)≤999999)(pco pk pl pa pb old new:Int) :
  EvQ Cx 187 [.v (.slice none 0 0),mH pc g (gI (p::t)) w true,.agg [I8 pco,I8 pk,I8 pl,I8 pa,I8 pb,I8 old,I8 new]] (mH pc g (gI t) w false):=by
 refine aX pU rfl (by simp[pB]) ?_
 have hc:dR (p::t)=I8 p.1::I8 p.2::dR t:=by simp[dR]
 have ho:dE (I8 p.1::I8 p.2::dR t)=true:=by rw[← hc];exact cG _
 have hz:(gJ [Value.int .u8 0,Value.int .u8 0] (t.length+1)).drop ((t.length+1)*2)=[]:=dB _ _ _
 have ht:(I8 p.1::I8 p.2::dR t).take ((t.length+1)*2)=I8 p.1::I8 p.2::dR t:=by
  rw[← hc]
  exact cB (p::t)
 cases t with
 |nil =>
  simp(disch:=omega)only[Nat.min_self,Nat.le_refl,maxLen,kC,gI,dR,List.flatMap_nil,List.flatMap_cons,Int.cast_ofNat_Int,go_sem,simprocAttr,aK fE fB]
 |cons q t =>
  have hn1:(((q::t).length+1:Nat):Int)-1=((q::t).length:Int):=by omega
  have hm:min (q::t).length ((q::t).length+1)=(q::t).length:=by omega
  have h0:0<(q::t).length:=by simp
  generalize q::t=t at *
  simp(disch:=omega)only[dH,Int.toNat_natCast,cH,c7,cB,cG,eG,Nat.min_self,Nat.le_refl,maxLen,kC,gI,hc,ho,ht,hn1,hm,AX,Nat.add_one_sub_one,List.length_append,List.length_drop,Nat.sub_zero,Nat.zero_mul,go_sem,simprocAttr,aK fE fB]
theorem aIx{v:A}{l:List Pl.Ins}(hv:aKN v l)(hl:l.length≤140737488351232)(hI:∀ x∈l,x.Ok){c:Pl.Core}(ok:c.Ok)(hb:c.buf.length≤255)(p:Pf) :
  EvQ Cx 187 [v,iZ c,.agg (cP p)] (iZ (Pl.back l c p.old)):=by
 have q:=ok.pc
 unfold Pl.u8 at q
 have hg:=ok.g
 obtain⟨pc,g,bs,w,d⟩:=c
 simp only at q hb hg
 cases d with
 |true =>
  cases bs with
  |nil=>exact aNm hv pc g w _ _ _ _ _ _ _
  |cons b t =>
   simp only[List.length_cons]at hb
   rcases hv with⟨rfl,rfl⟩|rfl
   ·exact aFs pc g b t w (by omega) _ _ _ _ _ _ _
   ·exact PR l pc g b t w (by omega) _ _ _ _ _ _ _
 |false =>
  cases w with
  |false =>
   rcases hv with⟨rfl,rfl⟩|rfl
   ·exact YI pc g bs (by omega) _ _ _ _ _ _ _
   ·exact YK l pc g bs false q.1 q.2 (by omega) _ _ _ _ _ _ _ rfl
  |true =>
   rcases hv with⟨rfl,rfl⟩|rfl
   ·exact YD pc g bs q.1 q.2 (by omega) _ _ _ _ _ _ _
   ·by_cases hp:pc<l.length
    ·exact W7 l (by omega) hI pc g bs true q.1 q.2 (by omega) _ _ _ _ _ _ _ rfl hp
    ·exact Z7 l pc g bs q.1 q.2 (by omega) (by omega) _ _ _ _ _ _ _
theorem aDM{c:Pl.Core}(hb:c.buf.length≤255):EvQ Cx 111 [iZ c] (wA (Pl.drains c)):=by
 obtain⟨pc,g,bs,w,d⟩:=c
 exact aEf pc g bs w d (by simp only at hb;omega)
end Go.Proofs.YtpdphobnchajbaaGreatDoor.Ev
