/- A core: what it does by itself. -/
import Derived.Test.YtpdphobnchajbaaGreatDoorP18
set_option linter.unusedSimpArgs false
set_option linter.unusedVariables false
namespace Go.Proofs.YtpdphobnchajbaaGreatDoor.Ev
open Go Go.RowKit
set_option maxRecDepth 100000
theorem ite_min{a b:Int}:(if b<a then b else a)=min a b:=by
 rw[Int.min_def]
 split<;>split<;>omega
theorem zeros_len(z:List Value):∀ n,(zeros z n).length=n*z.length
 |0=>by simp[zeros]
 |n+1=>by
  simp only[zeros,List.length_append,List.length_map,zeros_len z n,Nat.add_mul]
  omega
theorem zeros_drop(z:List Value)(n m:Nat)(h:n*z.length≤m):(zeros z n).drop m=[]:=List.drop_eq_nil_of_le (by rw[zeros_len];exact h)
theorem bufC_take(l:List (Int×Int)):(bufC l).take (l.length*2)=bufC l:=List.take_of_length_le (by rw[bufC_len];exact Nat.le_refl _)
theorem bufC_ones(l:List (Int×Int)):ones (bufC l)=true:=by
 induction l with
 |nil=>rfl
 |cons p l ih=>simpa[bufC,ones,one]using ih
theorem bufC_fz{H:Heap}{n:Nat}(l:List (Int×Int)):mapO (freeze H (n+1)) (bufC l)=some (bufC l):=by
 induction l with
 |nil=>rfl
 |cons p l ih =>
  have:bufC (p::l)=I8 p.1::I8 p.2::bufC l:=by simp[bufC]
  rw[this]
  simp only[mapO_cons,fz_v,ih]
theorem bufC_nrm(l:List (Int×Int)):nrmL (bufC l)=bufC l:=by
 induction l with
 |nil=>rfl
 |cons p l ih =>
  have:bufC (p::l)=I8 p.1::I8 p.2::bufC l:=by simp[bufC]
  rw[this]
  simp only[nrmL,nrm,ih]
theorem bufC_snoc(l:List (Int×Int))(a b:Int):bufC l++[I8 a,I8 b]=bufC (l++[(a,b)]):=by simp[bufC]
theorem bufC_take1(l:List (Int×Int))(p:Int×Int):(bufC (l++[p])).take ((l.length+1)*2)=bufC (l++[p]):=List.take_of_length_le (by rw[bufC_len];simp)
theorem zdrop_buf(a b:Value)(n:Nat):(zeros [a,b] n).drop (n*2)=[]:=zeros_drop _ n _ (Nat.le_refl _)
section
variable{bb:Bool}{dst:Option Nat}{j:Nat}{ms:List MOp}{st:Ev.St}{k:List It}{Q:Ex→Ev.St→Prop}
theorem next_use{l:List Pl.Ins}{nt vw rp b:Int}{ev:Bool}{pc:Int}{r0 r1 r2 r3 r4 r5 r6 r7:Int}{bs:List (Int×Int)}{w d:Bool}(hl:(l.length:Int)≤1152921504606846976)(p1:0≤pc)(p2:pc≤255)(hb:(bs.length:Int)≤1152921504606846976) :
  QK Cx 105 [.sl l.length (insC l),.agg [I8 nt,I8 vw,I8 rp,I64 b,Bo ev],.agg [I8 pc,I8 r0,I8 r1,I8 r2,I8 r3,I8 r4,I8 r5,I8 r6,I8 r7,.sl bs.length (bufC bs),Bo w,Bo d]] bb dst j ms st k Q ↔
   ((bb||flat (I8 (Pl.next l b ⟨pc,fun i=>[r0,r1,r2,r3,r4,r5,r6,r7].getD i 0,bs,w,d⟩)))=true∧OpsK Cx j ms ⟨put st.env dst (I8 (Pl.next l b ⟨pc,fun i=>[r0,r1,r2,r3,r4,r5,r6,r7].getD i 0,bs,w,d⟩)),st.H⟩ k Q):=QK.use (next_ev l hl nt vw rp b ev pc (fun i=>[r0,r1,r2,r3,r4,r5,r6,r7].getD i 0) bs w d p1 p2 hb)
theorem value_useS{pc:Int}{r0 r1 r2 r3 r4 r5 r6 r7:Int}{m:Nat}{cs:List A}{w d r:Bool}{n:Int}(n1:0≤n)(n2:n≤255):QK Cx 176 [.agg [I8 pc,I8 r0,I8 r1,I8 r2,I8 r3,I8 r4,I8 r5,I8 r6,I8 r7,.sl m cs,Bo w,Bo d],.agg [Bo r,I8 n]] bb dst j ms st k Q↔((bb||flat (I8 (Pl.value (fun i=>[r0,r1,r2,r3,r4,r5,r6,r7].getD i 0) r n)))=true∧OpsK Cx j ms ⟨put st.env dst (I8 (Pl.value (fun i=>[r0,r1,r2,r3,r4,r5,r6,r7].getD i 0) r n)),st.H⟩ k Q):=value_use rfl n1 n2
end
theorem next_regs(l:List Pl.Ins)(b pc:Int)(g:Nat→Int)(bs:List (Int×Int))(w d:Bool)(g':Nat→Int):Pl.next l b ⟨pc,g',bs,w,d⟩=Pl.next l b ⟨pc,g,bs,w,d⟩:=by simp only[Pl.next,Pl.free]
theorem value_regs(g:Nat→Int)(r:Bool)(n:Int)(n1:0≤n):Pl.value (fun i=>[g 0,g 1,g 2,g 3,g 4,g 5,g 6,g 7].getD i 0) r n=Pl.value g r n:=by
 unfold Pl.value
 cases r
 ·rfl
 ·by_cases h:n<8
  ·simp only[if_pos h,if_true]
   obtain h|h|h|h|h|h|h|h:=small8 n1 h<;>subst h<;>rfl
  ·simp only[if_neg h,if_true]
set_option maxHeartbeats 8000000 in
theorem loc_no(l:List Pl.Ins)(hl:(l.length:Int)≤1152921504606846976)(nt vw rp b:Int)(ev:Bool)(pc:Int)(g:Nat→Int)(bs:List (Int×Int))(w d:Bool)(p1:0≤pc)(p2:pc≤255)(hb:(bs.length:Int)≤1000000)(hn:¬ Pl.next l b ⟨pc,g,bs,w,d⟩=2) :
  EvQ Cx 108 [insA l,encR nt vw rp b ev,encC pc g (bufA bs) w d] (encC pc g (bufA bs) w d):=by
 refine evQ_of CxB108 rfl (by simp[fn108]) ?_
 simp(disch:=omega)only[next_regs l b pc g,bufC_nrm,next_use,Int.toNat_natCast,zeros_len,bufC_len,bufC_take,bufC_ones,bufC_fz,zdrop_buf,Nat.min_self,Nat.le_refl,maxLen,RetK,go_sem,simprocAttr,passK_in CxB167 CxP167]
theorem next_two{l:List Pl.Ins}{b pc:Int}{g:Nat→Int}{bs:List (Int×Int)}{w d:Bool}(p1:0≤pc)(hn:Pl.next l b ⟨pc,g,bs,w,d⟩=2):pc<l.length∧∃ x,l[pc.toNat]?=some x:=by
 cases hx:l[pc.toNat]? with
 |none =>
  unfold Pl.next at hn
  simp only[hx,Pl.free]at hn
  split at hn<;>omega
 |some x =>
  have:=(List.getElem?_eq_some_iff.1 hx).1
  exact⟨by omega,x,rfl⟩
set_option maxHeartbeats 16000000 in
theorem loc_yes(l:List Pl.Ins)(hl:(l.length:Int)≤1152921504606846976)(nt vw rp b:Int)(ev:Bool)(pc:Int)(g:Nat→Int)(bs:List (Int×Int))(w d:Bool)(p1:0≤pc)(p2:pc≤255)(hb:(bs.length:Int)≤1000000)(hg:∀ i,0≤g i∧g i≤255)(hI:∀ x∈l,x.Ok)(hn:Pl.next l b ⟨pc,g,bs,w,d⟩=2) :
  EvQ Cx 108 [insA l,encR nt vw rp b ev,encC pc g (bufA bs) w d] (encCore (Pl.loc l b ⟨pc,g,bs,w,d⟩)):=by
 obtain⟨hpc,x,hx⟩:=next_two p1 hn
 have hd:=insC_drop hx
 obtain⟨o1,o2,o3,o4,o5,o6,o7,o8⟩:=hI x (List.mem_of_getElem? hx)
 simp only[Pl.u8]at o1 o2 o3 o4 o5 o6 o7 o8
 have hL:Pl.loc l b ⟨pc,g,bs,w,d⟩=Pl.loc1 x l ⟨pc,g,bs,w,d⟩:=by simp only[Pl.loc,hn,hx,if_true]
 rw[hL]
 have va:=value_regs g x.ra x.na (by omega)
 have vb:=value_regs g x.rb x.nb (by omega)
 refine evQ_of CxB108 rfl (by simp[fn108]) ?_
 by_cases h7:x.op=7
 case pos=>simp(disch:=omega)only[next_regs l b pc g,hn,hd,h7,Pl.loc1,Pl.on,bufC_nrm,next_use,Int.toNat_natCast,zeros_len,bufC_len,bufC_take,bufC_ones,bufC_fz,zdrop_buf,Nat.min_self,Nat.le_refl,maxLen,putMap,findA,isKey,keySame,entriesA,RetK,ite_min,go_sem,simprocAttr,passK_in CxB167 CxP167,passK_in CxB170 CxP170,passK_in CxB173 CxP173]<;>((try simp only[List.cons.injEq,A.v.injEq,A.sl.injEq,List.length_append,List.length_cons,List.length_nil,Value.int.injEq,and_true,true_and]);(first|omega|done))
 by_cases h8:x.op=8
 case pos =>
  cases ht:Pl.tst x.fn (Pl.value g x.ra x.na) (Pl.value g x.rb x.nb)with
  |true=>simp(disch:=omega)only[next_regs l b pc g,hn,hd,h8,ht,va,vb,Pl.loc1,Pl.on,bufC_nrm,next_use,value_useS,test_use,Int.toNat_natCast,zeros_len,bufC_len,bufC_take,bufC_ones,bufC_fz,zdrop_buf,Nat.min_self,Nat.le_refl,maxLen,putMap,findA,isKey,keySame,entriesA,RetK,ite_min,go_sem,simprocAttr,passK_in CxB167 CxP167,passK_in CxB169 CxP169,passK_in CxB173 CxP173]<;>((try simp only[List.cons.injEq,A.v.injEq,A.sl.injEq,List.length_append,List.length_cons,List.length_nil,Value.int.injEq,and_true,true_and]);(first|omega|done))
  |false=>simp(disch:=omega)only[next_regs l b pc g,hn,hd,h8,ht,va,vb,Pl.loc1,Pl.on,bufC_nrm,next_use,value_useS,test_use,Int.toNat_natCast,zeros_len,bufC_len,bufC_take,bufC_ones,bufC_fz,zdrop_buf,Nat.min_self,Nat.le_refl,maxLen,putMap,findA,isKey,keySame,entriesA,RetK,ite_min,go_sem,simprocAttr,passK_in CxB167 CxP167,passK_in CxB169 CxP169,passK_in CxB173 CxP173]<;>((try simp only[List.cons.injEq,A.v.injEq,A.sl.injEq,List.length_append,List.length_cons,List.length_nil,Value.int.injEq,and_true,true_and]);(first|omega|done))
 by_cases h2:x.op=2
 case pos=>simp(disch:=omega)only[next_regs l b pc g,hn,hd,h2,va,Pl.loc1,Pl.on,bufC_nrm,next_use,value_useS,Int.toNat_natCast,zeros_len,bufC_len,bufC_take,bufC_take1,bufC_ones,bufC_fz,bufC_snoc,zdrop_buf,Nat.min_self,Nat.le_refl,maxLen,putMap,findA,isKey,keySame,entriesA,RetK,ite_min,List.length_append,go_sem,simprocAttr,passK_in CxB167 CxP167,passK_in CxB171 CxP171,passK_in CxB173 CxP173]<;>((try simp only[List.cons.injEq,A.sl.injEq,List.length_append,List.length_cons,List.length_nil,and_true]);(first|omega|done))
 by_cases h3:x.op=3
 case pos =>
  by_cases hD:x.dst<8
  case pos =>
   obtain h|h|h|h|h|h|h|h:=small8 o2.1 hD
   all_goals simp(disch:=omega)only[next_regs l b pc g,hn,hd,h3,h,va,vb,Pl.set,Pl.loc1,Pl.on,bufC_nrm,next_use,value_useS,calc_use,Int.toNat_natCast,zeros_len,bufC_len,bufC_take,bufC_ones,bufC_fz,zdrop_buf,Nat.min_self,Nat.le_refl,maxLen,putMap,findA,isKey,keySame,entriesA,RetK,ite_min,go_sem,simprocAttr,passK_in CxB167 CxP167,passK_in CxB168 CxP168,passK_in CxB173 CxP173,passK_in CxB218 CxP218]<;>((try simp only[List.cons.injEq,A.v.injEq,A.sl.injEq,List.length_append,List.length_cons,List.length_nil,Value.int.injEq,and_true,true_and]);(first|omega|done))
  simp(disch:=omega)only[next_regs l b pc g,hn,hd,h3,hD,va,vb,Pl.set,false_and,Pl.loc1,Pl.on,bufC_nrm,next_use,value_useS,calc_use,Int.toNat_natCast,zeros_len,bufC_len,bufC_take,bufC_ones,bufC_fz,zdrop_buf,Nat.min_self,Nat.le_refl,maxLen,putMap,findA,isKey,keySame,entriesA,RetK,ite_min,go_sem,simprocAttr,passK_in CxB167 CxP167,passK_in CxB168 CxP168,passK_in CxB173 CxP173,passK_in CxB218 CxP218]<;>((try simp only[List.cons.injEq,A.v.injEq,A.sl.injEq,List.length_append,List.length_cons,List.length_nil,Value.int.injEq,and_true,true_and]);(first|omega|done))
 by_cases h1:x.op=1
 case pos =>
  cases hy:Pl.young x.loc bs with
  |none=>simp(disch:=omega)only[next_regs l b pc g,hn,hd,h1,hy,Pl.loc1,Pl.on,bufC_nrm,next_use,young_use,Int.toNat_natCast,zeros_len,bufC_len,bufC_take,bufC_ones,bufC_fz,zdrop_buf,Nat.min_self,Nat.le_refl,maxLen,putMap,findA,isKey,keySame,entriesA,RetK,ite_min,Option.isSome_none,Option.getD_none,go_sem,simprocAttr,passK_in CxB167 CxP167,passK_in CxB172 CxP172,passK_in CxB173 CxP173]<;>((try simp only[List.cons.injEq,A.v.injEq,A.sl.injEq,List.length_append,List.length_cons,List.length_nil,Value.int.injEq,and_true,true_and]);(first|omega|done))
  |some v =>
   by_cases hD:x.dst<8
   case pos =>
    obtain h|h|h|h|h|h|h|h:=small8 o2.1 hD
    all_goals simp(disch:=omega)only[next_regs l b pc g,hn,hd,h1,hy,h,Pl.set,Pl.loc1,Pl.on,bufC_nrm,next_use,young_use,Int.toNat_natCast,zeros_len,bufC_len,bufC_take,bufC_ones,bufC_fz,zdrop_buf,Nat.min_self,Nat.le_refl,maxLen,putMap,findA,isKey,keySame,entriesA,RetK,ite_min,Option.isSome_some,Option.getD_some,go_sem,simprocAttr,passK_in CxB167 CxP167,passK_in CxB172 CxP172,passK_in CxB173 CxP173,passK_in CxB218 CxP218]<;>((try simp only[List.cons.injEq,A.v.injEq,A.sl.injEq,List.length_append,List.length_cons,List.length_nil,Value.int.injEq,and_true,true_and]);(first|omega|done))
   simp(disch:=omega)only[next_regs l b pc g,hn,hd,h1,hy,hD,Pl.set,false_and,Pl.loc1,Pl.on,bufC_nrm,next_use,young_use,Int.toNat_natCast,zeros_len,bufC_len,bufC_take,bufC_ones,bufC_fz,zdrop_buf,Nat.min_self,Nat.le_refl,maxLen,putMap,findA,isKey,keySame,entriesA,RetK,ite_min,Option.isSome_some,Option.getD_some,go_sem,simprocAttr,passK_in CxB167 CxP167,passK_in CxB172 CxP172,passK_in CxB173 CxP173,passK_in CxB218 CxP218]<;>((try simp only[List.cons.injEq,A.v.injEq,A.sl.injEq,List.length_append,List.length_cons,List.length_nil,Value.int.injEq,and_true,true_and]);(first|omega|done))
 simp(disch:=omega)only[next_regs l b pc g,hn,hd,h1,h2,h3,h7,h8,Pl.loc1,bufC_nrm,next_use,Int.toNat_natCast,zeros_len,bufC_len,bufC_take,bufC_ones,bufC_fz,zdrop_buf,Nat.min_self,Nat.le_refl,maxLen,putMap,findA,isKey,keySame,entriesA,zeroA,RetK,go_sem,simprocAttr,passK_in CxB167 CxP167]<;>((try simp only[List.cons.injEq,A.v.injEq,A.sl.injEq,List.length_append,List.length_cons,List.length_nil,Value.int.injEq,and_true,true_and]);(first|omega|done))
end Go.Proofs.YtpdphobnchajbaaGreatDoor.Ev
