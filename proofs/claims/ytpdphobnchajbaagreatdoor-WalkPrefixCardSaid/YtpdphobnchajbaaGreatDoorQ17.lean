/- A core: what it does by itself. -/
import Derived.Test.YtpdphobnchajbaaGreatDoorQ13
set_option linter.unusedSimpArgs false
set_option linter.unusedVariables false
namespace Go.Proofs.YtpdphobnchajbaaGreatDoor.Ev
open Go Go.RowKit
set_option maxRecDepth 100000
theorem hY{a b:Int}:(if b<a then b else a)=min a b:=by
 rw[Int.min_def]
 split<;>split<;>omega
theorem cH(z:List Value):∀ n,(gJ z n).length=n*z.length
 |0=>by simp[gJ]
 |n+1=>by
  simp only[gJ,List.length_append,List.length_map,cH z n,Nat.add_mul]
  omega
theorem N8(z:List Value)(n m:Nat)(h:n*z.length≤m):(gJ z n).drop m=[]:=List.drop_eq_nil_of_le (by rw[cH];exact h)
theorem cB(l:List (Int×Int)):(dR l).take (l.length*2)=dR l:=List.take_of_length_le (by rw[c7];exact Nat.le_refl _)
theorem cG(l:List (Int×Int)):dE (dR l)=true:=by
 induction l with
 |nil=>rfl
 |cons p l ih=>simpa[dR,dE,one]using ih
theorem eG{H:aG}{n:Nat}(l:List (Int×Int)):bQ (freeze H (n+1)) (dR l)=some (dR l):=by
 induction l with
 |nil=>rfl
 |cons p l ih =>
  have:dR (p::l)=I8 p.1::I8 p.2::dR l:=by simp[dR]
  rw[this]
  simp only[cV,qY,ih]
theorem dH(l:List (Int×Int)):fA (dR l)=dR l:=by
 induction l with
 |nil=>rfl
 |cons p l ih =>
  have:dR (p::l)=I8 p.1::I8 p.2::dR l:=by simp[dR]
  rw[this]
  simp only[fA,nrm,ih]
theorem XK(l:List (Int×Int))(a b:Int):dR l++[I8 a,I8 b]=dR (l++[(a,b)]):=by simp[dR]
theorem P2(l:List (Int×Int))(p:Int×Int):(dR (l++[p])).take ((l.length+1)*2)=dR (l++[p]):=List.take_of_length_le (by rw[c7];simp)
theorem dB(a b:Value)(n:Nat):(gJ [a,b] n).drop (n*2)=[]:=N8 _ n _ (Nat.le_refl _)
section
variable{bb:Bool}{dst:Option Nat}{j:Nat}{ms:List MOp}{st:Ev.St}{k:List It}{Q:Ex→Ev.St→Prop}
theorem iJ{l:List Pl.Ins}{nt vw rp b:Int}{ev:Bool}{pc:Int}{r0 r1 r2 r3 r4 r5 r6 r7:Int}{bs:List (Int×Int)}{w d:Bool}(hl:(l.length:Int)≤1152921504606846976)(p1:0≤pc)(p2:pc≤255)(hb:(bs.length:Int)≤1152921504606846976) :
  QK Cx 105 [.sl l.length (u2 l),.agg [I8 nt,I8 vw,I8 rp,I64 b,Bo ev],.agg [I8 pc,I8 r0,I8 r1,I8 r2,I8 r3,I8 r4,I8 r5,I8 r6,I8 r7,.sl bs.length (dR bs),Bo w,Bo d]] bb dst j ms st k Q ↔
   ((bb||iA (I8 (Pl.next l b ⟨pc,fun i=>[r0,r1,r2,r3,r4,r5,r6,r7].getD i 0,bs,w,d⟩)))=true∧iH Cx j ms ⟨put st.env dst (I8 (Pl.next l b ⟨pc,fun i=>[r0,r1,r2,r3,r4,r5,r6,r7].getD i 0,bs,w,d⟩)),st.H⟩ k Q):=QK.use (RK l hl nt vw rp b ev pc (fun i=>[r0,r1,r2,r3,r4,r5,r6,r7].getD i 0) bs w d p1 p2 hb)
theorem gM{pc:Int}{r0 r1 r2 r3 r4 r5 r6 r7:Int}{m:Nat}{cs:List A}{w d r:Bool}{n:Int}(n1:0≤n)(n2:n≤255):QK Cx 176 [.agg [I8 pc,I8 r0,I8 r1,I8 r2,I8 r3,I8 r4,I8 r5,I8 r6,I8 r7,.sl m cs,Bo w,Bo d],.agg [Bo r,I8 n]] bb dst j ms st k Q↔((bb||iA (I8 (Pl.value (fun i=>[r0,r1,r2,r3,r4,r5,r6,r7].getD i 0) r n)))=true∧iH Cx j ms ⟨put st.env dst (I8 (Pl.value (fun i=>[r0,r1,r2,r3,r4,r5,r6,r7].getD i 0) r n)),st.H⟩ k Q):=ZP rfl n1 n2
end
theorem gG(l:List Pl.Ins)(b pc:Int)(g:Nat→Int)(bs:List (Int×Int))(w d:Bool)(g':Nat→Int):Pl.next l b ⟨pc,g',bs,w,d⟩=Pl.next l b ⟨pc,g,bs,w,d⟩:=by simp only[Pl.next,Pl.free]
theorem oN(g:Nat→Int)(r:Bool)(n:Int)(n1:0≤n):Pl.value (fun i=>[g 0,g 1,g 2,g 3,g 4,g 5,g 6,g 7].getD i 0) r n=Pl.value g r n:=by
 unfold Pl.value
 cases r
 ·rfl
 ·by_cases h:n<8
  ·simp only[if_pos h,if_true]
   obtain h|h|h|h|h|h|h|h:=yJ n1 h<;>subst h<;>rfl
  ·simp only[if_neg h,if_true]
set_option maxHeartbeats 8000000 in
theorem bCi(l:List Pl.Ins)(hl:(l.length:Int)≤1152921504606846976)(nt vw rp b:Int)(ev:Bool)(pc:Int)(g:Nat→Int)(bs:List (Int×Int))(w d:Bool)(p1:0≤pc)(p2:pc≤255)(hb:(bs.length:Int)≤1000000)(hn:¬ Pl.next l b ⟨pc,g,bs,w,d⟩=2) :
  EvQ Cx 108 [eY l,W0 nt vw rp b ev,mH pc g (gI bs) w d] (mH pc g (gI bs) w d):=by
 refine aX aAH rfl (by simp[CD]) ?_
 simp(disch:=omega)only[gG l b pc g,dH,iJ,Int.toNat_natCast,cH,c7,cB,cG,eG,dB,Nat.min_self,Nat.le_refl,maxLen,kC,go_sem,simprocAttr,aK fE fB]
theorem aAO{l:List Pl.Ins}{b pc:Int}{g:Nat→Int}{bs:List (Int×Int)}{w d:Bool}(p1:0≤pc)(hn:Pl.next l b ⟨pc,g,bs,w,d⟩=2):pc<l.length∧∃ x,l[pc.toNat]?=some x:=by
 cases hx:l[pc.toNat]? with
 |none =>
  unfold Pl.next at hn
  simp only[hx,Pl.free]at hn
  split at hn<;>omega
 |some x =>
  have:=(List.getElem?_eq_some_iff.1 hx).1
  exact⟨by omega,x,rfl⟩
set_option maxHeartbeats 16000000 in
theorem aGY(l:List Pl.Ins)(hl:(l.length:Int)≤1152921504606846976)(nt vw rp b:Int)(ev:Bool)(pc:Int)(g:Nat→Int)(bs:List (Int×Int))(w d:Bool)(p1:0≤pc)(p2:pc≤255)(hb:(bs.length:Int)≤1000000)(hg:∀ i,0≤g i∧g i≤255)(hI:∀ x∈l,x.Ok)(hn:Pl.next l b ⟨pc,g,bs,w,d⟩=2) :
  EvQ Cx 108 [eY l,W0 nt vw rp b ev,mH pc g (gI bs) w d] (iZ (Pl.loc l b ⟨pc,g,bs,w,d⟩)):=by
 obtain⟨hpc,x,hx⟩:=aAO p1 hn
 have hd:=lW hx
 obtain⟨o1,o2,o3,o4,o5,o6,o7,o8⟩:=hI x (List.mem_of_getElem? hx)
 simp only[Pl.u8]at o1 o2 o3 o4 o5 o6 o7 o8
 have hL:Pl.loc l b ⟨pc,g,bs,w,d⟩=Pl.loc1 x l ⟨pc,g,bs,w,d⟩:=by simp only[Pl.loc,hn,hx,if_true]
 rw[hL]
 have va:=oN g x.ra x.na (by omega)
 have vb:=oN g x.rb x.nb (by omega)
 refine aX aAH rfl (by simp[CD]) ?_
 by_cases h7:x.op=7
 case pos=>simp(disch:=omega)only[gG l b pc g,hn,hd,h7,Pl.loc1,Pl.on,dH,iJ,Int.toNat_natCast,cH,c7,cB,cG,eG,dB,Nat.min_self,Nat.le_refl,maxLen,gK,kH,fL,fZ,dX,kC,hY,go_sem,simprocAttr,aK fE fB,aK aTc aWh,aK jO jW]<;>((try simp only[List.cons.injEq,A.v.injEq,A.sl.injEq,List.length_append,List.length_cons,List.length_nil,Value.int.injEq,and_true,true_and]);(first|omega|done))
 by_cases h8:x.op=8
 case pos =>
  cases ht:Pl.tst x.fn (Pl.value g x.ra x.na) (Pl.value g x.rb x.nb)with
  |true=>simp(disch:=omega)only[gG l b pc g,hn,hd,h8,ht,va,vb,Pl.loc1,Pl.on,dH,iJ,gM,JW,Int.toNat_natCast,cH,c7,cB,cG,eG,dB,Nat.min_self,Nat.le_refl,maxLen,gK,kH,fL,fZ,dX,kC,hY,go_sem,simprocAttr,aK fE fB,aK aCa aAJ,aK jO jW]<;>((try simp only[List.cons.injEq,A.v.injEq,A.sl.injEq,List.length_append,List.length_cons,List.length_nil,Value.int.injEq,and_true,true_and]);(first|omega|done))
  |false=>simp(disch:=omega)only[gG l b pc g,hn,hd,h8,ht,va,vb,Pl.loc1,Pl.on,dH,iJ,gM,JW,Int.toNat_natCast,cH,c7,cB,cG,eG,dB,Nat.min_self,Nat.le_refl,maxLen,gK,kH,fL,fZ,dX,kC,hY,go_sem,simprocAttr,aK fE fB,aK aCa aAJ,aK jO jW]<;>((try simp only[List.cons.injEq,A.v.injEq,A.sl.injEq,List.length_append,List.length_cons,List.length_nil,Value.int.injEq,and_true,true_and]);(first|omega|done))
 by_cases h2:x.op=2
 case pos=>simp(disch:=omega)only[gG l b pc g,hn,hd,h2,va,Pl.loc1,Pl.on,dH,iJ,gM,Int.toNat_natCast,cH,c7,cB,P2,cG,eG,XK,dB,Nat.min_self,Nat.le_refl,maxLen,gK,kH,fL,fZ,dX,kC,hY,List.length_append,go_sem,simprocAttr,aK fE fB,aK aUg a0n,aK jO jW]<;>((try simp only[List.cons.injEq,A.sl.injEq,List.length_append,List.length_cons,List.length_nil,and_true]);(first|omega|done))
 by_cases h3:x.op=3
 case pos =>
  by_cases hD:x.dst<8
  case pos =>
   obtain h|h|h|h|h|h|h|h:=yJ o2.1 hD
   all_goals simp(disch:=omega)only[gG l b pc g,hn,hd,h3,h,va,vb,Pl.set,Pl.loc1,Pl.on,dH,iJ,gM,J4,Int.toNat_natCast,cH,c7,cB,cG,eG,dB,Nat.min_self,Nat.le_refl,maxLen,gK,kH,fL,fZ,dX,kC,hY,go_sem,simprocAttr,aK fE fB,aK aCH aAl,aK jO jW,aK uT vV]<;>((try simp only[List.cons.injEq,A.v.injEq,A.sl.injEq,List.length_append,List.length_cons,List.length_nil,Value.int.injEq,and_true,true_and]);(first|omega|done))
  simp(disch:=omega)only[gG l b pc g,hn,hd,h3,hD,va,vb,Pl.set,false_and,Pl.loc1,Pl.on,dH,iJ,gM,J4,Int.toNat_natCast,cH,c7,cB,cG,eG,dB,Nat.min_self,Nat.le_refl,maxLen,gK,kH,fL,fZ,dX,kC,hY,go_sem,simprocAttr,aK fE fB,aK aCH aAl,aK jO jW,aK uT vV]<;>((try simp only[List.cons.injEq,A.v.injEq,A.sl.injEq,List.length_append,List.length_cons,List.length_nil,Value.int.injEq,and_true,true_and]);(first|omega|done))
 by_cases h1:x.op=1
 case pos =>
  cases hy:Pl.young x.loc bs with
  |none=>simp(disch:=omega)only[gG l b pc g,hn,hd,h1,hy,Pl.loc1,Pl.on,dH,iJ,nU,Int.toNat_natCast,cH,c7,cB,cG,eG,dB,Nat.min_self,Nat.le_refl,maxLen,gK,kH,fL,fZ,dX,kC,hY,Option.isSome_none,Option.getD_none,go_sem,simprocAttr,aK fE fB,aK PO M3,aK jO jW]<;>((try simp only[List.cons.injEq,A.v.injEq,A.sl.injEq,List.length_append,List.length_cons,List.length_nil,Value.int.injEq,and_true,true_and]);(first|omega|done))
  |some v =>
   by_cases hD:x.dst<8
   case pos =>
    obtain h|h|h|h|h|h|h|h:=yJ o2.1 hD
    all_goals simp(disch:=omega)only[gG l b pc g,hn,hd,h1,hy,h,Pl.set,Pl.loc1,Pl.on,dH,iJ,nU,Int.toNat_natCast,cH,c7,cB,cG,eG,dB,Nat.min_self,Nat.le_refl,maxLen,gK,kH,fL,fZ,dX,kC,hY,Option.isSome_some,Option.getD_some,go_sem,simprocAttr,aK fE fB,aK PO M3,aK jO jW,aK uT vV]<;>((try simp only[List.cons.injEq,A.v.injEq,A.sl.injEq,List.length_append,List.length_cons,List.length_nil,Value.int.injEq,and_true,true_and]);(first|omega|done))
   simp(disch:=omega)only[gG l b pc g,hn,hd,h1,hy,hD,Pl.set,false_and,Pl.loc1,Pl.on,dH,iJ,nU,Int.toNat_natCast,cH,c7,cB,cG,eG,dB,Nat.min_self,Nat.le_refl,maxLen,gK,kH,fL,fZ,dX,kC,hY,Option.isSome_some,Option.getD_some,go_sem,simprocAttr,aK fE fB,aK PO M3,aK jO jW,aK uT vV]<;>((try simp only[List.cons.injEq,A.v.injEq,A.sl.injEq,List.length_append,List.length_cons,List.length_nil,Value.int.injEq,and_true,true_and]);(first|omega|done))
 simp(disch:=omega)only[gG l b pc g,hn,hd,h1,h2,h3,h7,h8,Pl.loc1,dH,iJ,Int.toNat_natCast,cH,c7,cB,cG,eG,dB,Nat.min_self,Nat.le_refl,maxLen,gK,kH,fL,fZ,dX,AN,kC,go_sem,simprocAttr,aK fE fB]<;>((try simp only[List.cons.injEq,A.v.injEq,A.sl.injEq,List.length_append,List.length_cons,List.length_nil,Value.int.injEq,and_true,true_and]);(first|omega|done))
end Go.Proofs.YtpdphobnchajbaaGreatDoor.Ev
