/- A core: what it asks, drains, gets back. -/
import Derived.Test.YtpdphobnchajbaaGreatDoorP22
set_option linter.unusedSimpArgs false
set_option linter.unusedVariables false
namespace Go.Proofs.YtpdphobnchajbaaGreatDoor.Ev
open Go Go.RowKit
set_option maxRecDepth 100000
abbrev encOp(o:Pl.Op):A:=.agg [I8 o.kind,I8 o.loc,I8 o.a,I8 o.b]
set_option maxHeartbeats 8000000 in
theorem ask_ev(l:List Pl.Ins)(hl:(l.length:Int)≤1152921504606846976)(hI:∀ x∈l,x.Ok)(pc:Int)(g:Nat→Int)(bs:List (Int×Int))(w d:Bool)(p1:0≤pc)(p2:pc≤255)(hg:∀ i,0≤g i∧g i≤255):EvQ Cx 110 [insA l,encC pc g (bufA bs) w d] (encOp (Pl.ask l ⟨pc,g,bs,w,d⟩)):=by
 refine evQ_of CxB110 rfl (by simp[fn110]) ?_
 by_cases hpc:pc<l.length
 case neg =>
  have hn:l[pc.toNat]?=none:=List.getElem?_eq_none (by omega)
  simp(disch:=omega)only[hn,Pl.ask,go_sem,simprocAttr]
 obtain⟨x,hx⟩:∃ x,l[pc.toNat]?=some x:=⟨_,List.getElem?_eq_getElem (by omega)⟩
 have hd:=insC_drop hx
 obtain⟨o1,o2,o3,o4,o5,o6,o7,o8⟩:=hI x (List.mem_of_getElem? hx)
 simp only[Pl.u8]at o1 o2 o3 o4 o5 o6 o7 o8
 have va:=value_regs g x.ra x.na (by omega)
 have vb:=value_regs g x.rb x.nb (by omega)
 by_cases h1:x.op=1
 case pos=>simp(disch:=omega)only[hx,hd,h1,Pl.ask,go_sem,simprocAttr]
 by_cases h2:x.op=2
 case pos=>simp(disch:=omega)only[hx,hd,h2,Pl.ask,value_useS,va,true_or,go_sem,simprocAttr]
 by_cases h4:x.op=4
 case pos=>simp(disch:=omega)only[hx,hd,h4,Pl.ask,value_useS,va,true_or,or_true,go_sem,simprocAttr]
 by_cases h5:x.op=5
 case pos=>simp(disch:=omega)only[hx,hd,h5,Pl.ask,value_useS,va,or_true,go_sem,simprocAttr]
 by_cases h6:x.op=6
 case pos=>simp(disch:=omega)only[hx,hd,h6,Pl.ask,value_useS,va,vb,or_self,go_sem,simprocAttr]
 simp(disch:=omega)only[hx,hd,h1,h2,h4,h5,h6,Pl.ask,or_self,go_sem,simprocAttr]
abbrev drainR:Option (Int×Int)→A
 |some p=>.tup [.agg [I8 2,I8 p.1,I8 p.2,I8 0],Bo true]
 |none=>.tup [.agg [I8 0,I8 0,I8 0,I8 0],Bo false]
set_option maxHeartbeats 8000000 in
theorem drain_ev(pc:Int)(g:Nat→Int)(bs:List (Int×Int))(w d:Bool)(hb:(bs.length:Int)≤1000000):EvQ Cx 111 [encC pc g (bufA bs) w d] (drainR (Pl.drains ⟨pc,g,bs,w,d⟩)):=by
 refine evQ_of CxB111 rfl (by simp[fn111]) ?_
 cases bs with
 |nil=>cases w<;>cases d<;>simp(disch:=omega)only[Pl.drains,drainR,List.head?_nil,bufA,Int.cast_ofNat_Int,go_sem,simprocAttr]
 |cons p t =>
  have hc:bufC (p::t)=I8 p.1::I8 p.2::bufC t:=by simp[bufC]
  cases w<;>cases d<;>simp(disch:=omega)only[Pl.drains,drainR,List.head?_cons,bufA,hc,Int.toNat_zero,Nat.zero_mul,go_sem,simprocAttr]
set_option maxHeartbeats 8000000 in
theorem back_none(l:List Pl.Ins)(pc:Int)(g:Nat→Int)(bs:List (Int×Int))(w:Bool)(p1:0≤pc)(p2:pc≤255)(hb:(bs.length:Int)≤1000000)(pco pk pl pa pb old new:Int)(hw:w=false):EvQ Cx 187 [insA l,encC pc g (bufA bs) w false,.agg [I8 pco,I8 pk,I8 pl,I8 pa,I8 pb,I8 old,I8 new]] (encC pc g (bufA bs) false false):=by
 subst hw
 refine evQ_of CxB187 rfl (by simp[fn187]) ?_
 simp(disch:=omega)only[bufC_nrm,Int.toNat_natCast,zeros_len,bufC_len,bufC_take,bufC_ones,bufC_fz,zdrop_buf,Nat.min_self,Nat.le_refl,maxLen,RetK,go_sem,simprocAttr,passK_in CxB167 CxP167]
set_option maxHeartbeats 8000000 in
theorem back_wait(l:List Pl.Ins)(hl:(l.length:Int)≤1152921504606846976)(hI:∀ x∈l,x.Ok)(pc:Int)(g:Nat→Int)(bs:List (Int×Int))(w:Bool)(p1:0≤pc)(p2:pc≤255)(hb:(bs.length:Int)≤1000000)(pco pk pl pa pb old new:Int)(hw:w=true)(hpc:pc<l.length):EvQ Cx 187 [insA l,encC pc g (bufA bs) w false,.agg [I8 pco,I8 pk,I8 pl,I8 pa,I8 pb,I8 old,I8 new]] (encCore (Pl.back l ⟨pc,g,bs,true,false⟩ old)):=by
 subst hw
 obtain⟨x,hx⟩:∃ x,l[pc.toNat]?=some x:=⟨_,List.getElem?_eq_getElem (by omega)⟩
 have hd:=insC_drop hx
 obtain⟨o1,o2,o3,o4,o5,o6,o7,o8⟩:=hI x (List.mem_of_getElem? hx)
 simp only[Pl.u8]at o1 o2 o3 o4 o5 o6 o7 o8
 refine evQ_of CxB187 rfl (by simp[fn187]) ?_
 by_cases h2:x.op=2
 case pos=>simp(disch:=omega)only[hx,hd,h2,Pl.on,bufC_nrm,Int.toNat_natCast,zeros_len,bufC_len,bufC_take,bufC_ones,bufC_fz,zdrop_buf,Nat.min_self,Nat.le_refl,maxLen,RetK,ite_min,Pl.back,go_sem,simprocAttr,passK_in CxB167 CxP167,passK_in CxB173 CxP173]<;>((try simp only[List.cons.injEq,A.v.injEq,Value.int.injEq,and_true,true_and]);(first|omega|done))
 by_cases hD:x.dst<8
 case pos =>
  obtain h|h|h|h|h|h|h|h:=small8 o2.1 hD
  all_goals simp(disch:=omega)only[hx,hd,h2,h,Pl.set,Pl.on,bufC_nrm,Int.toNat_natCast,zeros_len,bufC_len,bufC_take,bufC_ones,bufC_fz,zdrop_buf,Nat.min_self,Nat.le_refl,maxLen,RetK,ite_min,Pl.back,go_sem,simprocAttr,passK_in CxB167 CxP167,passK_in CxB173 CxP173,passK_in CxB218 CxP218]<;>((try simp only[List.cons.injEq,A.v.injEq,Value.int.injEq,and_true,true_and]);(first|omega|done))
 simp(disch:=omega)only[hx,hd,h2,hD,Pl.set,Pl.on,false_and,bufC_nrm,Int.toNat_natCast,zeros_len,bufC_len,bufC_take,bufC_ones,bufC_fz,zdrop_buf,Nat.min_self,Nat.le_refl,maxLen,RetK,ite_min,Pl.back,go_sem,simprocAttr,passK_in CxB167 CxP167,passK_in CxB173 CxP173,passK_in CxB218 CxP218]<;>((try simp only[List.cons.injEq,A.v.injEq,Value.int.injEq,and_true,true_and]);(first|omega|done))
theorem bufC_takeX(t:List (Int×Int))(l:List A):(bufC t++l).take (t.length*2)=bufC t:=by
 rw[List.take_append_of_le_length (by rw[bufC_len];exact Nat.le_refl _),bufC_take]
set_option maxHeartbeats 16000000 in
theorem back_drain(l:List Pl.Ins)(pc:Int)(g:Nat→Int)(p:Int×Int)(t:List (Int×Int))(w:Bool)(hb:(t.length:Int)≤999999)(pco pk pl pa pb old new:Int) :
  EvQ Cx 187 [insA l,encC pc g (bufA (p::t)) w true,.agg [I8 pco,I8 pk,I8 pl,I8 pa,I8 pb,I8 old,I8 new]] (encC pc g (bufA t) w false):=by
 refine evQ_of CxB187 rfl (by simp[fn187]) ?_
 have hc:bufC (p::t)=I8 p.1::I8 p.2::bufC t:=by simp[bufC]
 have ho:ones (I8 p.1::I8 p.2::bufC t)=true:=by rw[← hc];exact bufC_ones _
 have hz:(zeros [Value.int .u8 0,Value.int .u8 0] (t.length+1)).drop ((t.length+1)*2)=[]:=zdrop_buf _ _ _
 have ht:(I8 p.1::I8 p.2::bufC t).take ((t.length+1)*2)=I8 p.1::I8 p.2::bufC t:=by
  rw[← hc]
  exact bufC_take (p::t)
 cases t with
 |nil =>
  simp(disch:=omega)only[Nat.min_self,Nat.le_refl,maxLen,RetK,bufA,bufC,List.flatMap_nil,List.flatMap_cons,Int.cast_ofNat_Int,go_sem,simprocAttr,passK_in CxB167 CxP167]
 |cons q t =>
  have hn1:(((q::t).length+1:Nat):Int)-1=((q::t).length:Int):=by omega
  have hm:min (q::t).length ((q::t).length+1)=(q::t).length:=by omega
  have h0:0<(q::t).length:=by simp
  generalize q::t=t at *
  simp(disch:=omega)only[bufC_nrm,Int.toNat_natCast,zeros_len,bufC_len,bufC_take,bufC_ones,bufC_fz,Nat.min_self,Nat.le_refl,maxLen,RetK,bufA,hc,ho,ht,hn1,hm,bufC_takeX,Nat.add_one_sub_one,List.length_append,List.length_drop,Nat.sub_zero,Nat.zero_mul,go_sem,simprocAttr,passK_in CxB167 CxP167]
end Go.Proofs.YtpdphobnchajbaaGreatDoor.Ev
