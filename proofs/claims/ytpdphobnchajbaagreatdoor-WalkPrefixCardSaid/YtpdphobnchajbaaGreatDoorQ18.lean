/- A core: what it asks, drains, gets back. -/
import Derived.Test.YtpdphobnchajbaaGreatDoorQ17
set_option linter.unusedSimpArgs false
set_option linter.unusedVariables false
namespace Go.Proofs.YtpdphobnchajbaaGreatDoor.Ev
open Go Go.RowKit
set_option maxRecDepth 100000
abbrev aOy(o:Pl.Op):A:=.agg [I8 o.kind,I8 o.loc,I8 o.a,I8 o.b]
set_option maxHeartbeats 8000000 in
theorem a0E(l:List Pl.Ins)(hl:(l.length:Int)≤1152921504606846976)(hI:∀ x∈l,x.Ok)(pc:Int)(g:Nat→Int)(bs:List (Int×Int))(w d:Bool)(p1:0≤pc)(p2:pc≤255)(hg:∀ i,0≤g i∧g i≤255):EvQ Cx 110 [eY l,mH pc g (gI bs) w d] (aOy (Pl.ask l ⟨pc,g,bs,w,d⟩)):=by
 refine aX aT3 rfl (by simp[FY]) ?_
 by_cases hpc:pc<l.length
 case neg =>
  have hn:l[pc.toNat]?=none:=List.getElem?_eq_none (by omega)
  simp(disch:=omega)only[hn,Pl.ask,go_sem,simprocAttr]
 obtain⟨x,hx⟩:∃ x,l[pc.toNat]?=some x:=⟨_,List.getElem?_eq_getElem (by omega)⟩
 have hd:=lW hx
 obtain⟨o1,o2,o3,o4,o5,o6,o7,o8⟩:=hI x (List.mem_of_getElem? hx)
 simp only[Pl.u8]at o1 o2 o3 o4 o5 o6 o7 o8
 have va:=oN g x.ra x.na (by omega)
 have vb:=oN g x.rb x.nb (by omega)
 by_cases h1:x.op=1
 case pos=>simp(disch:=omega)only[hx,hd,h1,Pl.ask,go_sem,simprocAttr]
 by_cases h2:x.op=2
 case pos=>simp(disch:=omega)only[hx,hd,h2,Pl.ask,gM,va,true_or,go_sem,simprocAttr]
 by_cases h4:x.op=4
 case pos=>simp(disch:=omega)only[hx,hd,h4,Pl.ask,gM,va,true_or,or_true,go_sem,simprocAttr]
 by_cases h5:x.op=5
 case pos=>simp(disch:=omega)only[hx,hd,h5,Pl.ask,gM,va,or_true,go_sem,simprocAttr]
 by_cases h6:x.op=6
 case pos=>simp(disch:=omega)only[hx,hd,h6,Pl.ask,gM,va,vb,or_self,go_sem,simprocAttr]
 simp(disch:=omega)only[hx,hd,h1,h2,h4,h5,h6,Pl.ask,or_self,go_sem,simprocAttr]
abbrev wA:Option (Int×Int)→A
 |some p=>.tup [.agg [I8 2,I8 p.1,I8 p.2,I8 0],Bo true]
 |none=>.tup [.agg [I8 0,I8 0,I8 0,I8 0],Bo false]
set_option maxHeartbeats 8000000 in
theorem aEf(pc:Int)(g:Nat→Int)(bs:List (Int×Int))(w d:Bool)(hb:(bs.length:Int)≤1000000):EvQ Cx 111 [mH pc g (gI bs) w d] (wA (Pl.drains ⟨pc,g,bs,w,d⟩)):=by
 refine aX a1j rfl (by simp[G9]) ?_
 cases bs with
 |nil=>cases w<;>cases d<;>simp(disch:=omega)only[Pl.drains,wA,List.head?_nil,gI,Int.cast_ofNat_Int,go_sem,simprocAttr]
 |cons p t =>
  have hc:dR (p::t)=I8 p.1::I8 p.2::dR t:=by simp[dR]
  cases w<;>cases d<;>simp(disch:=omega)only[Pl.drains,wA,List.head?_cons,gI,hc,Int.toNat_zero,Nat.zero_mul,go_sem,simprocAttr]
set_option maxHeartbeats 8000000 in
theorem YK(l:List Pl.Ins)(pc:Int)(g:Nat→Int)(bs:List (Int×Int))(w:Bool)(p1:0≤pc)(p2:pc≤255)(hb:(bs.length:Int)≤1000000)(pco pk pl pa pb old new:Int)(hw:w=false):EvQ Cx 187 [eY l,mH pc g (gI bs) w false,.agg [I8 pco,I8 pk,I8 pl,I8 pa,I8 pb,I8 old,I8 new]] (mH pc g (gI bs) false false):=by
 subst hw
 refine aX pU rfl (by simp[pB]) ?_
 simp(disch:=omega)only[dH,Int.toNat_natCast,cH,c7,cB,cG,eG,dB,Nat.min_self,Nat.le_refl,maxLen,kC,go_sem,simprocAttr,aK fE fB]
set_option maxHeartbeats 8000000 in
theorem W7(l:List Pl.Ins)(hl:(l.length:Int)≤1152921504606846976)(hI:∀ x∈l,x.Ok)(pc:Int)(g:Nat→Int)(bs:List (Int×Int))(w:Bool)(p1:0≤pc)(p2:pc≤255)(hb:(bs.length:Int)≤1000000)(pco pk pl pa pb old new:Int)(hw:w=true)(hpc:pc<l.length):EvQ Cx 187 [eY l,mH pc g (gI bs) w false,.agg [I8 pco,I8 pk,I8 pl,I8 pa,I8 pb,I8 old,I8 new]] (iZ (Pl.back l ⟨pc,g,bs,true,false⟩ old)):=by
 subst hw
 obtain⟨x,hx⟩:∃ x,l[pc.toNat]?=some x:=⟨_,List.getElem?_eq_getElem (by omega)⟩
 have hd:=lW hx
 obtain⟨o1,o2,o3,o4,o5,o6,o7,o8⟩:=hI x (List.mem_of_getElem? hx)
 simp only[Pl.u8]at o1 o2 o3 o4 o5 o6 o7 o8
 refine aX pU rfl (by simp[pB]) ?_
 by_cases h2:x.op=2
 case pos=>simp(disch:=omega)only[hx,hd,h2,Pl.on,dH,Int.toNat_natCast,cH,c7,cB,cG,eG,dB,Nat.min_self,Nat.le_refl,maxLen,kC,hY,Pl.back,go_sem,simprocAttr,aK fE fB,aK jO jW]<;>((try simp only[List.cons.injEq,A.v.injEq,Value.int.injEq,and_true,true_and]);(first|omega|done))
 by_cases hD:x.dst<8
 case pos =>
  obtain h|h|h|h|h|h|h|h:=yJ o2.1 hD
  all_goals simp(disch:=omega)only[hx,hd,h2,h,Pl.set,Pl.on,dH,Int.toNat_natCast,cH,c7,cB,cG,eG,dB,Nat.min_self,Nat.le_refl,maxLen,kC,hY,Pl.back,go_sem,simprocAttr,aK fE fB,aK jO jW,aK uT vV]<;>((try simp only[List.cons.injEq,A.v.injEq,Value.int.injEq,and_true,true_and]);(first|omega|done))
 simp(disch:=omega)only[hx,hd,h2,hD,Pl.set,Pl.on,false_and,dH,Int.toNat_natCast,cH,c7,cB,cG,eG,dB,Nat.min_self,Nat.le_refl,maxLen,kC,hY,Pl.back,go_sem,simprocAttr,aK fE fB,aK jO jW,aK uT vV]<;>((try simp only[List.cons.injEq,A.v.injEq,Value.int.injEq,and_true,true_and]);(first|omega|done))
theorem AX(t:List (Int×Int))(l:List A):(dR t++l).take (t.length*2)=dR t:=by
 rw[List.take_append_of_le_length (by rw[c7];exact Nat.le_refl _),cB]
set_option maxHeartbeats 16000000 in
theorem PR(l:List Pl.Ins)(pc:Int)(g:Nat→Int)(p:Int×Int)(t:List (Int×Int))(w:Bool)(hb:(t.length:Int)≤999999)(pco pk pl pa pb old new:Int) :
  EvQ Cx 187 [eY l,mH pc g (gI (p::t)) w true,.agg [I8 pco,I8 pk,I8 pl,I8 pa,I8 pb,I8 old,I8 new]] (mH pc g (gI t) w false):=by
 refine aX pU rfl (by simp[pB]) ?_
 have hc:dR (p::t)=I8 p.1::I8 p.2::dR t:=by simp[dR]
 have ho:dE (I8 p.1::I8 p.2::dR t)=true:=by rw[← hc];exact cG _
 have hz:(gJ [Value.int .u8 0,Value.int .u8 0] (t.length+1)).drop ((t.length+1)*2)=[]:=dB _ _ _
 have ht:(I8 p.1::I8 p.2::dR t).take ((t.length+1)*2)=I8 p.1::I8 p.2::dR t:=by
  rw[← hc]
  exact cB (p::t)
 cases t with
 |nil =>
  simp(disch:=omega)only[Nat.min_self,Nat.le_refl,maxLen,kC,gI,dR,List.flatMap_nil,List.flatMap_cons,Int.cast_ofNat_Int,go_sem,simprocAttr,aK fE fB]
 |cons q t =>
  have hn1:(((q::t).length+1:Nat):Int)-1=((q::t).length:Int):=by omega
  have hm:min (q::t).length ((q::t).length+1)=(q::t).length:=by omega
  have h0:0<(q::t).length:=by simp
  generalize q::t=t at *
  simp(disch:=omega)only[dH,Int.toNat_natCast,cH,c7,cB,cG,eG,Nat.min_self,Nat.le_refl,maxLen,kC,gI,hc,ho,ht,hn1,hm,AX,Nat.add_one_sub_one,List.length_append,List.length_drop,Nat.sub_zero,Nat.zero_mul,go_sem,simprocAttr,aK fE fB]
end Go.Proofs.YtpdphobnchajbaaGreatDoor.Ev
