/- home.Get. -/
import Derived.Test.YtpdphobnchajbaaGreatDoorQ30
import Derived.Test.YtpdphobnchajbaaGreatDoorQ29
set_option linter.unusedSimpArgs false
set_option linter.unusedVariables false
namespace Go.Proofs.YtpdphobnchajbaaGreatDoor.Ev
open Go Go.RowKit
set_option maxRecDepth 100000
set_option maxHeartbeats 16000000
def mM(v:A):Prop:=v=.v (.slice none 0 0)∨∃ l:List Mg,v=.sl l.length (cells cM l)∧(∀ x∈l,x.Ok)∧l.length≤200
theorem jI(H:aG)(n:Nat):∀ l:List Mg,bQ (freeze H (n+1)) (cells cM l)=some (cells cM l)
 |[]=>rfl
 |x::l=>by
  simp only[cells,List.cons_append,List.nil_append,cV,qY,jI H n l]
theorem aHZ{t:Tl}(ht:t.Ok){i j:Nat}(hi:i<4)(hj:j<5):∃(z:Ce) (r:List A),List.drop (505+i*15+j*3) (cT9 t)=cE z++r∧z.Ok:=by
 have hl:=ht.h
 have hc:=ht.c
 obtain⟨z,hz⟩:∃ z,t.H[i*5+j]?=some z:=⟨_,List.getElem?_eq_getElem (by omega)⟩
 obtain⟨r,hr⟩:=jE cE 3 (fun _=>rfl) [] hz
 refine⟨z,r,?_,ht.hs z (List.mem_of_getElem? hz)⟩
 rw[← hr,cT9,show 505+i*15+j*3=504+(i*5+j)*3+1 by omega,List.drop_succ_cons,← List.drop_drop,List.drop_left' (by rw[eE cE 3 (fun _=>rfl),hc]),List.append_nil]
theorem aGa{t:Tl}(ht:t.Ok){c h o s y:Int}(hk:OkG c h o s y){id:Int}(hid:0≤id∧id<256){d:Dr}(k:d.Ok){m:Mg}(mo:m.Ok) :
  ∃ d' out e,EvQ Cx 123 [.agg (cT9 t),fR c h o s y,I8 id,eD d,eM m] (.tup [eD d',out,I64 e])∧d'.Ok∧mM out:=by
 have:∃ z,EvQ Cx 123 [.agg (cT9 t),fR c h o s y,I8 id,eD d,eM m] z∧∃ d' out e,z=.tup [eD d',out,I64 e]∧d'.Ok∧mM out:=by
  have hR:=gQ hk
  obtain⟨b1,hp⟩:=ZD hk id mo
  obtain⟨d1,e1,hend,k1⟩:=aRl k mo
  obtain⟨v,b2,hon,hv⟩:=a1m d m
  obtain⟨b3,hb⟩:=aJU d
  have h1:=oJ t
  have hlen:=d7 ht
  have hst:=k.state
  obtain⟨st,ow,kd,mk,al,wt,ak,dd⟩:=d
  simp only at hst
  obtain⟨i,rfl⟩:∃ i:Nat,st=i:=⟨st.toNat,by omega⟩
  obtain⟨j,rfl⟩:∃ j:Nat,v=j:=⟨v.toNat,by omega⟩
  refine cA a3A rfl (by simp[HN]) ?_
  cases b1 with
  |false =>
   simp(disch:=omega)only[go_sem,simprocAttr,h1,QK.use hR,QK.use hp]
   exact⟨⟨i,ow,kd,mk,al,wt,ak,dd⟩,_,_,rfl,k,.inl rfl⟩
  |true =>
   by_cases q4:m.kind=4
   ·simp(disch:=omega)only[go_sem,simprocAttr,h1,QK.use hR,QK.use hp,QK.use hend]
    exact⟨_,_,_,rfl,k1,.inl rfl⟩
   by_cases q5:m.kind=5
   ·simp(disch:=omega)only[go_sem,simprocAttr,h1,QK.use hR,QK.use hp,QK.use hend]
    exact⟨_,_,_,rfl,k1,.inl rfl⟩
   cases b2 with
   |false =>
    simp(disch:=omega)only[go_sem,simprocAttr,h1,QK.use hR,QK.use hp,QK.use hon]
    exact⟨⟨i,ow,kd,mk,al,wt,ak,dd⟩,_,_,rfl,k,.inl rfl⟩
   |true =>
    cases b3 with
    |true =>
     simp(disch:=omega)only[go_sem,simprocAttr,h1,QK.use hR,QK.use hp,QK.use hon,QK.use hb]
     exact⟨⟨i,ow,kd,mk,al,wt,ak,dd⟩,_,_,rfl,k,.inl rfl⟩
    |false =>
     by_cases q6:4≤(i:Int)
     ·simp(disch:=omega)only[go_sem,simprocAttr,h1,QK.use hR,QK.use hp,QK.use hon,QK.use hb]
      exact⟨⟨i,ow,kd,mk,al,wt,ak,dd⟩,_,_,rfl,k,.inl rfl⟩
     obtain⟨z,r,hz,zo⟩:=aHZ ht (i:=i) (j:=j) (by omega) (by omega)
     obtain⟨e,he⟩:=QS z.rule
     by_cases q7:e=0
     case neg =>
      simp(disch:=omega)only[go_sem,simprocAttr,h1,hz,QK.use hR,QK.use hp,QK.use hon,QK.use hb,QK.use he,eH q7]
      exact⟨⟨i,ow,kd,mk,al,wt,ak,dd⟩,_,_,rfl,k,.inl rfl⟩
     subst q7
     simp(disch:=omega)only[go_sem,simprocAttr,h1,hz,QK.use hR,QK.use hp,QK.use hon,QK.use hb,QK.use he]
     refine aM (aBZ hk mo hid (b:=6) (st:=⟨⟨i,ow,kd,mk,al,wt,ak,dd⟩,0,[]⟩) (v:=.v (.slice none 0 0)) ⟨rfl,.inl ⟨rfl,rfl⟩⟩ ⟨k,by simp,by simp⟩ (by simp) z.acts zo.acts) ?_
     rintro y' K ⟨rfl,st',v',a',k',l',kp⟩
     obtain⟨d2,n2,out2⟩:=st'
     have g4:=kp.same 4 (by simp) (by decide) (fun _ _ e=>by cases e)
     have g5:=kp.same 5 (by simp) (by decide) (fun _ _ e=>by cases e)
     have hU:=a'.at_
     unfold hwC at hU
     simp only[List.getElem?_cons_succ,List.getElem?_cons_zero]at g4 g5 hU
     have s6:∀ X,(K.set 6 X)[6]?=some X:=fun X=>bU hU X
     have s64:=fun X=>aO g4 (show 6≠4 by decide) X
     have s646:∀ X Y,((K.set 6 X).set 4 Y)[6]?=some X:=fun X Y=>aO (s6 X) (by decide) Y
     have s644:∀ X Y,((K.set 6 X).set 4 Y)[4]?=some Y:=fun X Y=>bU (s64 X) Y
     have ok2:(Dr.mk z.to d2.owner d2.kind d2.mask d2.all d2.wait d2.asker d2.d).Ok:=⟨zo.to,k'.d.owner,k'.d.kind,k'.d.mask,k'.d.wait,k'.d.asker,k'.d.d⟩
     rcases a'.own with⟨h0,rfl⟩|⟨h0,q,hq,rfl,hqk⟩
     ·simp(disch:=omega)only[go_sem,simprocAttr,g5,hU,s6,s64,s646,s644]
      exact⟨⟨z.to,d2.owner,d2.kind,d2.mask,d2.all,d2.wait,d2.asker,d2.d⟩,_,_,rfl,ok2,.inl rfl⟩
     ·have sq:∀ X Y,((K.set 6 X).set 4 Y)[q]?=some (some ⟨60,cells cM out2,false⟩):=fun X Y=>aO (aO hqk (by omega) X) (by omega) Y
      simp(disch:=omega)only[go_sem,simprocAttr,g5,hU,s6,s64,s646,s644,sq,cY,dG,jI]
      exact⟨⟨z.to,d2.owner,d2.kind,d2.mask,d2.all,d2.wait,d2.asker,d2.d⟩,_,_,rfl,ok2,.inr ⟨_,rfl,k'.out,l'⟩⟩
 obtain⟨_,h,d',out,e,rfl,hd⟩:=this
 exact⟨d',out,e,h,hd⟩
section
variable(k:Ca)(r:List A)
theorem a7q:List.take 160 (cC k++r)=cC k:=by rw[List.take_append_of_le_length (by rw[aY];omega),List.take_of_length_le (by rw[aY];omega)]
theorem bDc:List.drop 156 (cC k++r)=cO k.op++r:=by rw[List.drop_append_of_le_length (by rw[aY];omega),B8]
theorem bC2:List.take 156 (cC k++r)=List.take 156 (cC k):=List.take_append_of_le_length (by rw[aY];omega)
theorem bCX(z:Rq):List.take 156 (cC k)++(I8 z.kind::I8 z.loc::I8 z.a::I8 z.b::r)=cC (k.setO z)++r:=by
 rw[← WQ]
 simp only[List.append_assoc,List.cons_append,List.nil_append]
theorem bB7:dE (cC k++r)=dE r:=by
 have h:=rK k
 generalize cC k=l at h ⊢
 induction l with
 |nil=>rfl
 |cons x l ih =>
  simp only[dE,List.cons_append,Bool.and_eq_true]at h ⊢
  rw[ih h.2,h.1,Bool.true_and]
theorem a5a:List.drop 160 (cC k++r)=List.drop 0 r:=by
 have h:=List.drop_left' (l₂:=r) (aY k)
 rw[show 160=160+0 from rfl,← List.drop_drop,h]
theorem a8g:List.drop 165 (cC k++r)=List.drop 5 r:=by
 have h:=List.drop_left' (l₂:=r) (aY k)
 rw[show 165=160+5 from rfl,← List.drop_drop,h]
theorem a71:List.take 165 (cC k++r)=cC k++List.take 5 r:=by
 have h:=aY k
 rw[List.take_append,List.take_of_length_le (by omega),h]
theorem a6q:List.drop 166 (cC k++r)=List.drop 6 r:=by
 have h:=List.drop_left' (l₂:=r) (aY k)
 rw[show 166=160+6 from rfl,← List.drop_drop,h]
theorem bAq:List.take 166 (cC k++r)=cC k++List.take 6 r:=by
 have h:=aY k
 rw[List.take_append,List.take_of_length_le (by omega),h]
theorem a87:List.drop 167 (cC k++r)=List.drop 7 r:=by
 have h:=List.drop_left' (l₂:=r) (aY k)
 rw[show 167=160+7 from rfl,← List.drop_drop,h]
theorem a8T:List.take 167 (cC k++r)=cC k++List.take 7 r:=by
 have h:=aY k
 rw[List.take_append,List.take_of_length_le (by omega),h]
theorem a38:List.drop 168 (cC k++r)=List.drop 8 r:=by
 have h:=List.drop_left' (l₂:=r) (aY k)
 rw[show 168=160+8 from rfl,← List.drop_drop,h]
theorem a8d:List.take 168 (cC k++r)=cC k++List.take 8 r:=by
 have h:=aY k
 rw[List.take_append,List.take_of_length_le (by omega),h]
theorem a4e:List.drop 169 (cC k++r)=List.drop 9 r:=by
 have h:=List.drop_left' (l₂:=r) (aY k)
 rw[show 169=160+9 from rfl,← List.drop_drop,h]
theorem a5F:List.take 169 (cC k++r)=cC k++List.take 9 r:=by
 have h:=aY k
 rw[List.take_append,List.take_of_length_le (by omega),h]
theorem bBt:List.drop 170 (cC k++r)=List.drop 10 r:=by
 have h:=List.drop_left' (l₂:=r) (aY k)
 rw[show 170=160+10 from rfl,← List.drop_drop,h]
theorem a3Q:List.take 170 (cC k++r)=cC k++List.take 10 r:=by
 have h:=aY k
 rw[List.take_append,List.take_of_length_le (by omega),h]
theorem a4u:List.drop 174 (cC k++r)=List.drop 14 r:=by
 have h:=List.drop_left' (l₂:=r) (aY k)
 rw[show 174=160+14 from rfl,← List.drop_drop,h]
theorem a4T:List.take 174 (cC k++r)=cC k++List.take 14 r:=by
 have h:=aY k
 rw[List.take_append,List.take_of_length_le (by omega),h]
theorem a9Q:List.drop 175 (cC k++r)=List.drop 15 r:=by
 have h:=List.drop_left' (l₂:=r) (aY k)
 rw[show 175=160+15 from rfl,← List.drop_drop,h]
theorem a73:List.take 175 (cC k++r)=cC k++List.take 15 r:=by
 have h:=aY k
 rw[List.take_append,List.take_of_length_le (by omega),h]
theorem a5e:List.drop 179 (cC k++r)=List.drop 19 r:=by
 have h:=List.drop_left' (l₂:=r) (aY k)
 rw[show 179=160+19 from rfl,← List.drop_drop,h]
theorem a7L:List.drop 180 (cC k++r)=List.drop 20 r:=by
 have h:=List.drop_left' (l₂:=r) (aY k)
 rw[show 180=160+20 from rfl,← List.drop_drop,h]
theorem a5k:List.drop 182 (cC k++r)=List.drop 22 r:=by
 have h:=List.drop_left' (l₂:=r) (aY k)
 rw[show 182=160+22 from rfl,← List.drop_drop,h]
theorem a7f:List.drop 186 (cC k++r)=List.drop 26 r:=by
 have h:=List.drop_left' (l₂:=r) (aY k)
 rw[show 186=160+26 from rfl,← List.drop_drop,h]
theorem bBD:List.take 186 (cC k++r)=cC k++List.take 26 r:=by
 have h:=aY k
 rw[List.take_append,List.take_of_length_le (by omega),h]
theorem a3X:List.drop 187 (cC k++r)=List.drop 27 r:=by
 have h:=List.drop_left' (l₂:=r) (aY k)
 rw[show 187=160+27 from rfl,← List.drop_drop,h]
theorem a8y:List.take 187 (cC k++r)=cC k++List.take 27 r:=by
 have h:=aY k
 rw[List.take_append,List.take_of_length_le (by omega),h]
theorem bAs:List.drop 188 (cC k++r)=List.drop 28 r:=by
 have h:=List.drop_left' (l₂:=r) (aY k)
 rw[show 188=160+28 from rfl,← List.drop_drop,h]
theorem a4J:List.take 188 (cC k++r)=cC k++List.take 28 r:=by
 have h:=aY k
 rw[List.take_append,List.take_of_length_le (by omega),h]
theorem bA6:List.drop 189 (cC k++r)=List.drop 29 r:=by
 have h:=List.drop_left' (l₂:=r) (aY k)
 rw[show 189=160+29 from rfl,← List.drop_drop,h]
theorem a9m:List.take 189 (cC k++r)=cC k++List.take 29 r:=by
 have h:=aY k
 rw[List.take_append,List.take_of_length_le (by omega),h]
theorem a6l:List.drop 190 (cC k++r)=List.drop 30 r:=by
 have h:=List.drop_left' (l₂:=r) (aY k)
 rw[show 190=160+30 from rfl,← List.drop_drop,h]
theorem a6b:List.take 190 (cC k++r)=cC k++List.take 30 r:=by
 have h:=aY k
 rw[List.take_append,List.take_of_length_le (by omega),h]
theorem a9v:List.drop 191 (cC k++r)=List.drop 31 r:=by
 have h:=List.drop_left' (l₂:=r) (aY k)
 rw[show 191=160+31 from rfl,← List.drop_drop,h]
end
attribute [go_sem] a7q bDc bC2 bB7 a5a a8g a6q a87 a38 a4e bBt a4u a9Q a5e a7L a5k a7f a3X bAs bA6 a6l a9v a71 bAq a8T a8d a5F a3Q a4T a73 bBD a8y a4J a9m a6b
structure Cw where
 k:Ca
 x:Ln
 gone:Bool
 used:Bool
 sent:List Mg
 done:List Pf
structure Cw.Ok(w:Cw):Prop where
 k:w.k.Ok
 x:w.x.Ok
 sent:∀ z∈w.sent,z.Ok
 done:∀ z∈w.done,z.Ok
def cwC(c h o s y id ev:Int)(m:Mg)(dZ:Bool)(k:Ca)(x:Ln)(gone used:Bool)(vs vd:A):List A :=
 cC k++[I64 c,I64 h,I64 o,I64 s,I64 y,I8 id,I8 x.line,I8 x.state,J8 x.need,Bo x.has,I8 x.d.a,I8 x.d.b,I8 x.d.c,I8 x.d.d,I8 ev,I8 m.kind,I8 m.src,I8 m.dst,I8 m.line,I8 m.asker,I8 m.acks,Bo m.alone,I8 m.d.a,I8 m.d.b,I8 m.d.c,I8 m.d.d,Bo dZ,Bo gone,Bo used,vs,vd]
structure CAt(c h o s y id ev:Int)(m:Mg)(dZ:Bool)(b:Nat)(H:aG)(w:Cw)(vs vd:A):Prop where
 at_:H[b]?=some (some ⟨309,cwC c h o s y id ev m dZ w.k w.x w.gone w.used vs vd,true⟩)
 sent:oV 60 11 cM H vs w.sent b
 done:oV 211 7 cP H vd w.done b
structure Kq(H K:aG)(b:Nat)(vs vd vs' vd':A):Prop where
 len:H.length≤K.length
 same:∀ i,i<H.length→i≠b→(∀ n sz,vs≠.ref i 0 n sz)→(∀ n sz,vd≠.ref i 0 n sz)→K[i]?=H[i]?
 s:vs'=vs∨∃ j n sz,H.length≤j∧vs'=.ref j 0 n sz
 d:vd'=vd∨∃ j n sz,H.length≤j∧vd'=.ref j 0 n sz
theorem Kq.refl(H:aG)(b:Nat)(vs vd:A):Kq H H b vs vd vs vd:=⟨Nat.le_refl _,fun _ _ _ _ _=>rfl,.inl rfl,.inl rfl⟩
theorem Kq.trans{H K L:aG}{b:Nat}{vs vd vs' vd' v2 w2:A}(h:Kq H K b vs vd vs' vd')(h':Kq K L b vs' vd' v2 w2):Kq H L b vs vd v2 w2:=by
 have aux:∀{v v':A} {i:Nat},i<H.length→(∀ n sz,v≠.ref i 0 n sz)→(v'=v∨∃ j n sz,H.length≤j∧v'=.ref j 0 n sz)→∀ n sz,v'≠.ref i 0 n sz:=fun hi hv ho n sz e=>by
  rcases ho with e2|⟨j,n2,sz2,hj,e2⟩
  ·exact hv n sz (e2▸e)
  ·rw[e2]at e
   cases e
   omega
 have aux2:∀{v v' v2:A},(v'=v∨∃ j n sz,H.length≤j∧v'=.ref j 0 n sz)→(v2=v'∨∃ j n sz,K.length≤j∧v2=.ref j 0 n sz)→(v2=v∨∃ j n sz,H.length≤j∧v2=.ref j 0 n sz):=fun a b=>by
  rcases b with e|⟨j,n,sz,hj,e⟩
  ·rcases a with e2|e2
   ·exact .inl (e.trans e2)
   ·rw[e];exact .inr e2
  ·exact .inr ⟨j,n,sz,Nat.le_trans h.len hj,e⟩
 refine⟨Nat.le_trans h.len h'.len,fun i hi hb hs hd=>?_,aux2 h.s h'.s,aux2 h.d h'.d⟩
 rw[h'.same i (Nat.lt_of_lt_of_le hi h.len) hb (aux hi hs h.s) (aux hi hd h.d),h.same i hi hb hs hd]
theorem Kq.set{H:aG}{b:Nat}{vs vd:A}(X:Option Blk):Kq H (H.set b X) b vs vd vs vd:=⟨by rw[List.length_set];exact Nat.le_refl _,fun i _ hb _ _=>List.getElem?_set_ne (Ne.symm hb),.inl rfl,.inl rfl⟩
theorem Kq.app{H:aG}{b:Nat}{vs vd:A}(l:aG):Kq H (H++l) b vs vd vs vd:=⟨by rw[List.length_append];omega,fun i hi _ _ _=>List.getElem?_append_left hi,.inl rfl,.inl rfl⟩
theorem oV.app{α:Type}{el:TypeId}{sz:Nat}{c:α→List A}{H:aG}{v:A}{l:List α}{b:Nat}(h:oV el sz c H v l b)(t:aG):oV el sz c (H++t) v l b:=by
 rcases h with h|⟨h0,j,h1,h2,h3⟩
 ·exact .inl h
 ·exact .inr ⟨h0,j,h1,h2,aI h3 t⟩
theorem oV.set{α:Type}{el:TypeId}{sz:Nat}{c:α→List A}{H:aG}{v:A}{l:List α}{b:Nat}(h:oV el sz c H v l b){i:Nat}(hi:∀ n s,v≠.ref i 0 n s)(X:Option Blk):oV el sz c (H.set i X) v l b:=by
 rcases h with h|⟨h0,j,h1,h2,h3⟩
 ·exact .inl h
 ·exact .inr ⟨h0,j,h1,h2,aO h3 (by rintro rfl;exact hi _ _ h2) X⟩
theorem oV.setb{α:Type}{el:TypeId}{sz:Nat}{c:α→List A}{H:aG}{v:A}{l:List α}{b:Nat}(h:oV el sz c H v l b)(X:Option Blk):oV el sz c (H.set b X) v l b:=by
 rcases h with h|⟨h0,j,h1,h2,h3⟩
 ·exact .inl h
 ·exact .inr ⟨h0,j,h1,h2,aO h3 (by omega) X⟩
theorem oV.ne2{α:Type}{el:TypeId}{sz:Nat}{c:α→List A}{K:aG}{v:A}{l:List α}{b:Nat}(h:oV el sz c K v l b){i:Nat}{e:TypeId}{cs:List A}{w:Bool}(hi:K[i]?=some (some ⟨e,cs,w⟩))(he:e≠el):∀ n s,v≠.ref i 0 n s:=by
 intro n s e1
 rcases h with⟨-,h⟩|⟨-,j,-,h,hk⟩
 ·rw[h]at e1;cases e1
 ·rw[h]at e1
  cases e1
  rw[hi]at hk
  simp at hk
  exact he hk.1
section
variable{c h o s y id ev:Int}{m:Mg}{dZ:Bool}{b:Nat}
theorem AE{H:aG}{w:Cw}{vs vd:A}(a:CAt c h o s y id ev m dZ b H w vs vd)(hl:w.sent.length≤1000){j:Nat}{z:Mg}(hj:H[j]?=some (some ⟨60,cM z,true⟩)) :
  bW Cx 331 [.ptr b 0,.ref j 0 1 11] H fun y' K=>y'=.tup []∧∃ vs',CAt c h o s y id ev m dZ b K ⟨w.k,w.x,w.gone,w.used,w.sent++[z.by id w.x.line],w.done⟩ vs' vd∧Kq H K b vs vd vs' vd:=by
 obtain⟨k,x,gone,used,sent,done⟩:=w
 obtain⟨ha,ho,hd⟩:=a
 simp only at ha ho hd hl ⊢
 have hU:=ha
 unfold cwC at hU
 have hbH:b<H.length:=(List.getElem?_eq_some_iff.1 ha).1
 rw[aP aCq aD2];refine⟨by simp[BO],?_⟩
 rcases ho with⟨rfl,rfl⟩|⟨h0,i,hi,rfl,hk⟩
 ·simp(disch:=omega)only[go_sem,simprocAttr]
  rw[aB (l:=[0,6,7,8]) rfl]
  simp(disch:=omega)only[go_sem,simprocAttr]
  rw[aA]
  simp(disch:=omega)only[go_sem,simprocAttr,aI hU,hj]
  rw[aB (l:=[0,6,7,8]) rfl]
  simp(disch:=omega)only[go_sem,simprocAttr]
  rw[aA]
  simp(disch:=omega)only[go_sem,simprocAttr,aW]
  refine⟨_,⟨aI (bU ha _) _,.inr ⟨by simp,H.length+1,by omega,rfl,?_⟩,(hd.setb _).app _⟩,?_⟩
  ·rw[d8]
   rfl
  ·exact⟨by simp,fun i hi hb _ _=>by rw[List.getElem?_append_left (by rw[List.length_set];exact hi),List.getElem?_set_ne (Ne.symm hb)],.inr ⟨_,_,_,by omega,rfl⟩,.inl rfl⟩
 ·have hiH:i<H.length:=(List.getElem?_eq_some_iff.1 hk).1
  have hUs:=fun l=>aI (aO hU (show i≠b by omega) none) l
  have hdi:=hd.ne2 hk (by decide)
  simp(disch:=omega)only[go_sem,simprocAttr]
  rw[aB (l:=[0,6,7,8]) rfl]
  simp(disch:=omega)only[go_sem,simprocAttr]
  rw[aA]
  simp(disch:=omega)only[go_sem,simprocAttr,aI hU,hj,aI hk,hUs,cY,dG]
  rw[aB (l:=[0,6,7,8]) rfl]
  simp(disch:=omega)only[go_sem,simprocAttr]
  rw[aA]
  simp(disch:=omega)only[go_sem,simprocAttr,aW]
  refine⟨_,⟨bU (hUs _) _,.inr ⟨by simp,H.length+1,by omega,by rw[List.length_append];rfl,?_⟩,((hd.set hdi none).app _).setb _⟩,?_⟩
  ·rw[List.getElem?_set_ne (by omega),d8,dP]
   rfl
  ·exact⟨by rw[List.length_set,List.length_append,List.length_set];omega,fun q hq hb hv _=>by
    rw[List.getElem?_set_ne (Ne.symm hb),List.getElem?_append_left (by rw[List.length_set];exact hq),List.getElem?_set_ne]
    rintro rfl
    exact hv _ _ rfl,.inr ⟨_,_,_,by omega,rfl⟩,.inl rfl⟩
theorem rF{H:aG}{w:Cw}{vs vd:A}(a:CAt c h o s y id ev m dZ b H w vs vd)(hl:w.sent.length≤1000){z:Mg} :
  bW Cx 331 [.ptr b 0,.sl 1 (cM z)] H fun y' K=>y'=.tup []∧∃ vs',CAt c h o s y id ev m dZ b K ⟨w.k,w.x,w.gone,w.used,w.sent++[z.by id w.x.line],w.done⟩ vs' vd∧Kq H K b vs vd vs' vd:=by
 obtain⟨k,x,gone,used,sent,done⟩:=w
 obtain⟨ha,ho,hd⟩:=a
 simp only at ha ho hd hl ⊢
 have hU:=ha
 unfold cwC at hU
 have hbH:b<H.length:=(List.getElem?_eq_some_iff.1 ha).1
 rw[aP aCq aD2];refine⟨by simp[BO],?_⟩
 rcases ho with⟨rfl,rfl⟩|⟨h0,i,hi,rfl,hk⟩
 ·simp(disch:=omega)only[go_sem,simprocAttr]
  rw[aB (l:=[0,6,7,8]) rfl]
  simp(disch:=omega)only[go_sem,simprocAttr]
  rw[aA]
  simp(disch:=omega)only[go_sem,simprocAttr,aI hU]
  rw[aB (l:=[0,6,7,8]) rfl]
  simp(disch:=omega)only[go_sem,simprocAttr]
  rw[aA]
  simp(disch:=omega)only[go_sem,simprocAttr,aW]
  refine⟨_,⟨aI (bU ha _) _,.inr ⟨by simp,H.length+1,by omega,rfl,?_⟩,(hd.setb _).app _⟩,?_⟩
  ·rw[d8]
   rfl
  ·exact⟨by simp,fun i hi hb _ _=>by rw[List.getElem?_append_left (by rw[List.length_set];exact hi),List.getElem?_set_ne (Ne.symm hb)],.inr ⟨_,_,_,by omega,rfl⟩,.inl rfl⟩
 ·have hiH:i<H.length:=(List.getElem?_eq_some_iff.1 hk).1
  have hUs:=fun l=>aI (aO hU (show i≠b by omega) none) l
  have hdi:=hd.ne2 hk (by decide)
  simp(disch:=omega)only[go_sem,simprocAttr]
  rw[aB (l:=[0,6,7,8]) rfl]
  simp(disch:=omega)only[go_sem,simprocAttr]
  rw[aA]
  simp(disch:=omega)only[go_sem,simprocAttr,aI hU,aI hk,hUs,cY,dG]
  rw[aB (l:=[0,6,7,8]) rfl]
  simp(disch:=omega)only[go_sem,simprocAttr]
  rw[aA]
  simp(disch:=omega)only[go_sem,simprocAttr,aW]
  refine⟨_,⟨bU (hUs _) _,.inr ⟨by simp,H.length+1,by omega,by rw[List.length_append];rfl,?_⟩,((hd.set hdi none).app _).setb _⟩,?_⟩
  ·rw[List.getElem?_set_ne (by omega),d8,dP]
   rfl
  ·exact⟨by rw[List.length_set,List.length_append,List.length_set];omega,fun q hq hb hv _=>by
    rw[List.getElem?_set_ne (Ne.symm hb),List.getElem?_append_left (by rw[List.length_set];exact hq),List.getElem?_set_ne]
    rintro rfl
    exact hv _ _ rfl,.inr ⟨_,_,_,by omega,rfl⟩,.inl rfl⟩
end
section
variable{c h o s y id ev:Int}{m:Mg}{dZ:Bool}{b:Nat}
theorem CAt.app{H:aG}{w:Cw}{vs vd:A}(a:CAt c h o s y id ev m dZ b H w vs vd)(l:aG):CAt c h o s y id ev m dZ b (H++l) w vs vd:=⟨aI a.at_ l,a.sent.app l,a.done.app l⟩
theorem CAt.set{H:aG}{w:Cw}{vs vd:A}(a:CAt c h o s y id ev m dZ b H w vs vd)(k:Ca)(x:Ln)(gone used:Bool) :
  CAt c h o s y id ev m dZ b (H.set b (some ⟨309,cwC c h o s y id ev m dZ k x gone used vs vd,true⟩)) ⟨k,x,gone,used,w.sent,w.done⟩ vs vd:=⟨bU a.at_ _,a.sent.setb _,a.done.setb _⟩
def BB(c h o s y id ev:Int)(m:Mg)(dZ:Bool)(b:Nat)(f:FuncId):Prop:=∀(H:aG) (w:Cw) (vs vd:A),CAt c h o s y id ev m dZ b H w vs vd→w.Ok→w.sent.length≤500→w.done.length≤500 →
 bW Cx f [.ptr b 0] H fun y' K=>y'=.tup []∧∃ w' vs' vd',CAt c h o s y id ev m dZ b K w' vs' vd'∧w'.Ok∧w'.sent.length≤w.sent.length+1∧w'.done.length≤w.done.length+1∧Kq H K b vs vd vs' vd'
theorem a32(mo:m.Ok):BB c h o s y id ev m dZ b 289:=by
 intro H w vs vd a k hs hd;obtain⟨ca,x,gone,used,sent,done⟩:=w;have hU:=a.at_;unfold cwC at hU
 rw[aP aTi a2a];refine⟨by simp[KQ],?_⟩
 cases dZ
 ·simp(disch:=omega)only[go_sem,simprocAttr,hU,aW]
  exact⟨_,vs,vd,a,k,by simp,by simp,Kq.refl _ _ _ _⟩
 ·simp(disch:=omega)only[go_sem,simprocAttr,hU,aW]
  exact⟨_,vs,vd,a.set ca ⟨x.line,x.state,x.need,x.has,m.d⟩ gone used,⟨k.k,⟨k.x.line,k.x.state,k.x.need,mo.d⟩,k.sent,k.done⟩,by simp,by simp,Kq.set _⟩
theorem bAE:BB c h o s y id ev m dZ b 298:=by
 intro H w vs vd a k hs hd;obtain⟨ca,x,gone,used,sent,done⟩:=w;have hU:=a.at_;unfold cwC at hU
 rw[aP aU8 a22];refine⟨by simp[LB],?_⟩
 simp(disch:=omega)only[go_sem,simprocAttr,hU,aW]
 exact⟨_,vs,vd,a.set ca x true used,⟨k.k,k.x,k.sent,k.done⟩,by simp,by simp,Kq.set _⟩
theorem bCh(hk:OkG c h o s y)(mo:m.Ok)(hid:0≤id∧id<256):BB c h o s y id ev m dZ b 290:=by
 intro H w vs vd a k hs hd;obtain⟨ca,x,gone,used,sent,done⟩:=w;have hU:=a.at_;unfold cwC at hU
 have hxl:=k.x.line
 simp only at hxl hs
 have hg:=wF hk (l:=x.line) (by omega) (by omega)
 obtain⟨c1,c2,h1,h2,-⟩:=hk
 have e1:=Int.emod_nonneg x.line (show h≠0 by omega)
 have e2:=Int.emod_lt_of_pos x.line (show 0<h by omega)
 have hz:0≤c+x.line % h∧c+x.line % h<256:=by omega
 generalize hq:c+x.line % h=q at hg hz
 have zo:(Mg.mk 1 0 q 0 0 0 false ⟨0,0,0,0⟩).Ok:=⟨by simp,by simp,hz,by simp,by simp,by simp,d4z⟩
 rw[aP aQm aSO];refine⟨by simp[LT],?_⟩
 simp(disch:=omega)only[go_sem,simprocAttr,hU,QK.use hg,aK zR zK]
 first
 |refine aM (rF a (by simp;omega) (z:=⟨1,0,q,0,0,0,false,⟨0,0,0,0⟩⟩)) ?_
  rintro y' K ⟨rfl,vs',a',kq⟩
  simp(disch:=omega)only[go_sem,simprocAttr,aW,aE]
  exact⟨_,_,_,a',⟨k.k,k.x,fW k.sent (Mg.by_ok zo hid k.x.line),k.done⟩,by simp,by simp,kq⟩
 |refine aM (AE (a.app _) (by simp;omega) (j:=H.length) (z:=⟨1,0,q,0,0,0,false,⟨0,0,0,0⟩⟩) (e9 H _ [])) ?_
  rintro y' K ⟨rfl,vs',a',kq⟩
  simp(disch:=omega)only[go_sem,simprocAttr,aW]
  exact⟨_,_,_,a',⟨k.k,k.x,fW k.sent (Mg.by_ok zo hid k.x.line),k.done⟩,by simp,by simp,(Kq.app _).trans kq⟩
 |done
theorem a4G(hk:OkG c h o s y)(mo:m.Ok)(hid:0≤id∧id<256):BB c h o s y id ev m dZ b 291:=by
 intro H w vs vd a k hs hd;obtain⟨ca,x,gone,used,sent,done⟩:=w;have hU:=a.at_;unfold cwC at hU
 have hxl:=k.x.line
 simp only at hxl hs
 have hg:=wF hk (l:=x.line) (by omega) (by omega)
 obtain⟨c1,c2,h1,h2,-⟩:=hk
 have e1:=Int.emod_nonneg x.line (show h≠0 by omega)
 have e2:=Int.emod_lt_of_pos x.line (show 0<h by omega)
 have hz:0≤c+x.line % h∧c+x.line % h<256:=by omega
 generalize hq:c+x.line % h=q at hg hz
 have zo:(Mg.mk 2 0 q 0 0 0 false ⟨0,0,0,0⟩).Ok:=⟨by simp,by simp,hz,by simp,by simp,by simp,d4z⟩
 rw[aP a1p aTf];refine⟨by simp[HE],?_⟩
 simp(disch:=omega)only[go_sem,simprocAttr,hU,QK.use hg,aK zR zK]
 first
 |refine aM (rF a (by simp;omega) (z:=⟨2,0,q,0,0,0,false,⟨0,0,0,0⟩⟩)) ?_
  rintro y' K ⟨rfl,vs',a',kq⟩
  simp(disch:=omega)only[go_sem,simprocAttr,aW,aE]
  exact⟨_,_,_,a',⟨k.k,k.x,fW k.sent (Mg.by_ok zo hid k.x.line),k.done⟩,by simp,by simp,kq⟩
 |refine aM (AE (a.app _) (by simp;omega) (j:=H.length) (z:=⟨2,0,q,0,0,0,false,⟨0,0,0,0⟩⟩) (e9 H _ [])) ?_
  rintro y' K ⟨rfl,vs',a',kq⟩
  simp(disch:=omega)only[go_sem,simprocAttr,aW]
  exact⟨_,_,_,a',⟨k.k,k.x,fW k.sent (Mg.by_ok zo hid k.x.line),k.done⟩,by simp,by simp,(Kq.app _).trans kq⟩
 |done
theorem bDl(hk:OkG c h o s y)(mo:m.Ok)(hid:0≤id∧id<256):BB c h o s y id ev m dZ b 292:=by
 intro H w vs vd a k hs hd;obtain⟨ca,x,gone,used,sent,done⟩:=w;have hU:=a.at_;unfold cwC at hU
 have hxl:=k.x.line
 simp only at hxl hs
 have hg:=wF hk (l:=x.line) (by omega) (by omega)
 obtain⟨c1,c2,h1,h2,-⟩:=hk
 have e1:=Int.emod_nonneg x.line (show h≠0 by omega)
 have e2:=Int.emod_lt_of_pos x.line (show 0<h by omega)
 have hz:0≤c+x.line % h∧c+x.line % h<256:=by omega
 generalize hq:c+x.line % h=q at hg hz
 have zo:(Mg.mk 3 0 q 0 0 0 false x.d).Ok:=⟨by simp,by simp,hz,by simp,by simp,by simp,k.x.d⟩
 rw[aP aVM a2e];refine⟨by simp[KI],?_⟩
 simp(disch:=omega)only[go_sem,simprocAttr,hU,QK.use hg,aK zR zK]
 first
 |refine aM (rF a (by simp;omega) (z:=⟨3,0,q,0,0,0,false,x.d⟩)) ?_
  rintro y' K ⟨rfl,vs',a',kq⟩
  simp(disch:=omega)only[go_sem,simprocAttr,aW,aE]
  exact⟨_,_,_,a',⟨k.k,k.x,fW k.sent (Mg.by_ok zo hid k.x.line),k.done⟩,by simp,by simp,kq⟩
 |refine aM (AE (a.app _) (by simp;omega) (j:=H.length) (z:=⟨3,0,q,0,0,0,false,x.d⟩) (e9 H _ [])) ?_
  rintro y' K ⟨rfl,vs',a',kq⟩
  simp(disch:=omega)only[go_sem,simprocAttr,aW]
  exact⟨_,_,_,a',⟨k.k,k.x,fW k.sent (Mg.by_ok zo hid k.x.line),k.done⟩,by simp,by simp,(Kq.app _).trans kq⟩
 |done
theorem a9r(hk:OkG c h o s y)(mo:m.Ok)(hid:0≤id∧id<256):BB c h o s y id ev m dZ b 293:=by
 intro H w vs vd a k hs hd;obtain⟨ca,x,gone,used,sent,done⟩:=w;have hU:=a.at_;unfold cwC at hU
 have hxl:=k.x.line
 simp only at hxl hs
 have hg:=wF hk (l:=x.line) (by omega) (by omega)
 obtain⟨c1,c2,h1,h2,-⟩:=hk
 have e1:=Int.emod_nonneg x.line (show h≠0 by omega)
 have e2:=Int.emod_lt_of_pos x.line (show 0<h by omega)
 have hz:0≤c+x.line % h∧c+x.line % h<256:=by omega
 generalize hq:c+x.line % h=q at hg hz
 have zo:(Mg.mk 10 0 m.asker 0 0 m.acks false x.d).Ok:=⟨by simp,by simp,mo.asker,by simp,by simp,mo.acks,k.x.d⟩
 rw[aP aUN aRt];refine⟨by simp[IE],?_⟩
 simp(disch:=omega)only[go_sem,simprocAttr,hU]
 first
 |refine aM (rF a (by simp;omega) (z:=⟨10,0,m.asker,0,0,m.acks,false,x.d⟩)) ?_
  rintro y' K ⟨rfl,vs',a',kq⟩
  simp(disch:=omega)only[go_sem,simprocAttr,aW]
  exact⟨_,_,_,a',⟨k.k,k.x,fW k.sent (Mg.by_ok zo hid k.x.line),k.done⟩,by simp,by simp,kq⟩
 |refine aM (AE (a.app _) (by simp;omega) (j:=H.length) (z:=⟨10,0,m.asker,0,0,m.acks,false,x.d⟩) (e9 H _ [])) ?_
  rintro y' K ⟨rfl,vs',a',kq⟩
  simp(disch:=omega)only[go_sem,simprocAttr,aW,aE]
  exact⟨_,_,_,a',⟨k.k,k.x,fW k.sent (Mg.by_ok zo hid k.x.line),k.done⟩,by simp,by simp,(Kq.app _).trans kq⟩
 |done
theorem aGI(hk:OkG c h o s y)(mo:m.Ok)(hid:0≤id∧id<256):BB c h o s y id ev m dZ b 294:=by
 intro H w vs vd a k hs hd;obtain⟨ca,x,gone,used,sent,done⟩:=w;have hU:=a.at_;unfold cwC at hU
 have hxl:=k.x.line
 simp only at hxl hs
 have hg:=wF hk (l:=x.line) (by omega) (by omega)
 obtain⟨c1,c2,h1,h2,-⟩:=hk
 have e1:=Int.emod_nonneg x.line (show h≠0 by omega)
 have e2:=Int.emod_lt_of_pos x.line (show 0<h by omega)
 have hz:0≤c+x.line % h∧c+x.line % h<256:=by omega
 generalize hq:c+x.line % h=q at hg hz
 have zo:(Mg.mk 5 0 q 0 0 0 false x.d).Ok:=⟨by simp,by simp,hz,by simp,by simp,by simp,k.x.d⟩
 rw[aP aWZ aQ2];refine⟨by simp[IP],?_⟩
 simp(disch:=omega)only[go_sem,simprocAttr,hU,QK.use hg,aK zR zK]
 first
 |refine aM (rF a (by simp;omega) (z:=⟨5,0,q,0,0,0,false,x.d⟩)) ?_
  rintro y' K ⟨rfl,vs',a',kq⟩
  simp(disch:=omega)only[go_sem,simprocAttr,aW,aE]
  exact⟨_,_,_,a',⟨k.k,k.x,fW k.sent (Mg.by_ok zo hid k.x.line),k.done⟩,by simp,by simp,kq⟩
 |refine aM (AE (a.app _) (by simp;omega) (j:=H.length) (z:=⟨5,0,q,0,0,0,false,x.d⟩) (e9 H _ [])) ?_
  rintro y' K ⟨rfl,vs',a',kq⟩
  simp(disch:=omega)only[go_sem,simprocAttr,aW]
  exact⟨_,_,_,a',⟨k.k,k.x,fW k.sent (Mg.by_ok zo hid k.x.line),k.done⟩,by simp,by simp,(Kq.app _).trans kq⟩
 |done
theorem bDm(hk:OkG c h o s y)(mo:m.Ok)(hid:0≤id∧id<256):BB c h o s y id ev m dZ b 295:=by
 intro H w vs vd a k hs hd;obtain⟨ca,x,gone,used,sent,done⟩:=w;have hU:=a.at_;unfold cwC at hU
 have hxl:=k.x.line
 simp only at hxl hs
 have hg:=wF hk (l:=x.line) (by omega) (by omega)
 obtain⟨c1,c2,h1,h2,-⟩:=hk
 have e1:=Int.emod_nonneg x.line (show h≠0 by omega)
 have e2:=Int.emod_lt_of_pos x.line (show 0<h by omega)
 have hz:0≤c+x.line % h∧c+x.line % h<256:=by omega
 generalize hq:c+x.line % h=q at hg hz
 have zo:(Mg.mk 12 0 m.asker 0 0 0 false ⟨0,0,0,0⟩).Ok:=⟨by simp,by simp,mo.asker,by simp,by simp,by simp,d4z⟩
 rw[aP aRc aZI];refine⟨by simp[MI],?_⟩
 simp(disch:=omega)only[go_sem,simprocAttr,hU]
 first
 |refine aM (rF a (by simp;omega) (z:=⟨12,0,m.asker,0,0,0,false,⟨0,0,0,0⟩⟩)) ?_
  rintro y' K ⟨rfl,vs',a',kq⟩
  simp(disch:=omega)only[go_sem,simprocAttr,aW,aE]
  exact⟨_,_,_,a',⟨k.k,k.x,fW k.sent (Mg.by_ok zo hid k.x.line),k.done⟩,by simp,by simp,kq⟩
 |refine aM (AE (a.app _) (by simp;omega) (j:=H.length) (z:=⟨12,0,m.asker,0,0,0,false,⟨0,0,0,0⟩⟩) (e9 H _ [])) ?_
  rintro y' K ⟨rfl,vs',a',kq⟩
  simp(disch:=omega)only[go_sem,simprocAttr,aW]
  exact⟨_,_,_,a',⟨k.k,k.x,fW k.sent (Mg.by_ok zo hid k.x.line),k.done⟩,by simp,by simp,(Kq.app _).trans kq⟩
 |done
theorem bDp(hk:OkG c h o s y)(mo:m.Ok)(hid:0≤id∧id<256):BB c h o s y id ev m dZ b 296:=by
 intro H w vs vd a k hs hd;obtain⟨ca,x,gone,used,sent,done⟩:=w;have hU:=a.at_;unfold cwC at hU
 have hxl:=k.x.line
 simp only at hxl hs
 have hg:=wF hk (l:=x.line) (by omega) (by omega)
 obtain⟨c1,c2,h1,h2,-⟩:=hk
 have e1:=Int.emod_nonneg x.line (show h≠0 by omega)
 have e2:=Int.emod_lt_of_pos x.line (show 0<h by omega)
 have hz:0≤c+x.line % h∧c+x.line % h<256:=by omega
 generalize hq:c+x.line % h=q at hg hz
 have zo:(Mg.mk 4 0 q 0 0 0 false ⟨0,0,0,0⟩).Ok:=⟨by simp,by simp,hz,by simp,by simp,by simp,d4z⟩
 rw[aP aY5 aWn];refine⟨by simp[KP],?_⟩
 simp(disch:=omega)only[go_sem,simprocAttr,hU,QK.use hg,aK zR zK]
 first
 |refine aM (rF a (by simp;omega) (z:=⟨4,0,q,0,0,0,false,⟨0,0,0,0⟩⟩)) ?_
  rintro y' K ⟨rfl,vs',a',kq⟩
  simp(disch:=omega)only[go_sem,simprocAttr,aW,aE]
  exact⟨_,_,_,a',⟨k.k,k.x,fW k.sent (Mg.by_ok zo hid k.x.line),k.done⟩,by simp,by simp,kq⟩
 |refine aM (AE (a.app _) (by simp;omega) (j:=H.length) (z:=⟨4,0,q,0,0,0,false,⟨0,0,0,0⟩⟩) (e9 H _ [])) ?_
  rintro y' K ⟨rfl,vs',a',kq⟩
  simp(disch:=omega)only[go_sem,simprocAttr,aW]
  exact⟨_,_,_,a',⟨k.k,k.x,fW k.sent (Mg.by_ok zo hid k.x.line),k.done⟩,by simp,by simp,(Kq.app _).trans kq⟩
 |done
end
theorem iE(l:List Pf):(cells cP l).length=l.length*7:=eE cP 7 (fun _=>rfl) l
theorem jA(l:List Pf):(cells cP l).take (l.length*7)=cells cP l:=List.take_of_length_le (by rw[iE];omega)
section
variable{c h o s y id ev:Int}{m:Mg}{dZ:Bool}{b:Nat}
theorem cDo(hk:OkG c h o s y)(hid:0≤id∧id<256):BB c h o s y id ev m dZ b 297:=by
 intro H w vs vd a k hs hd;obtain⟨ca,x,gone,used,sent,done⟩:=w;have hU:=a.at_;unfold cwC at hU
 have hbH:b<H.length:=(List.getElem?_eq_some_iff.1 a.at_).1
 have hop:=k.k.op
 simp only at hop hd
 obtain⟨W,N,op⟩:=ca
 obtain⟨kd,lc,oa,ob⟩:=op
 simp only at hop
 have hlc:=hop.loc
 simp only at hlc
 have hL:=MC hk (l:=lc) (by omega) (by omega)
 have hG:=bCK hk x.d (l:=lc) (by omega) (by omega)
 have hv:=k.x.d.at (lc % o)
 simp only at hv
 obtain⟨nw,hnw,hA⟩:=aA8 hop hv
 have hP:=a9p hk x.d (l:=lc) (by omega) (by omega) nw
 have hdo:=k.x.d.to (lc % o) hnw
 simp only at hdo
 generalize x.d.to (lc % o) nw=d' at hP hdo
 generalize x.d.at (lc % o)=ol at hG hA hv
 have hl:=hU
 have hlo:=fun l=>aI hU l
 rw[aP aWP aW3];refine⟨by simp[F8],?_⟩
 by_cases q1:kd=0
 ·simp(disch:=omega)only[go_sem,simprocAttr,hU,aE]
  exact⟨_,vs,vd,a.app _,k,by simp,by simp,Kq.app _⟩
 by_cases q2:ev=2
 ·simp(disch:=omega)only[go_sem,simprocAttr,hU,hlo,aE]
  exact⟨_,vs,vd,a.app _,k,by simp,by simp,Kq.app _⟩
 by_cases q3:lc/o=x.line
 case neg =>
  simp(disch:=omega)only[go_sem,simprocAttr,hU,hlo,QK.use hL,eH q3,aE]
  exact⟨_,vs,vd,a.app _,k,by simp,by simp,Kq.app _⟩
 have hsa:∀ X l,(H.set b X++l)[b]?=some X:=fun X l=>aI (bU hU X) l
 have hsb:∀(X Y:Option Blk) (l:aG),(H.set b X++l).set b Y=H.set b Y++l:=fun X Y l=>by
  rw[List.set_append_left _ _ (by rw[List.length_set];exact hbH),set_set]
 have hso:=fun r=>bCX ⟨W,N,⟨kd,lc,oa,ob⟩⟩ r ⟨0,0,0,0⟩
 have dok:∀ z∈done++[Pf.mk id ⟨kd,lc,oa,ob⟩ ol nw],z.Ok:=fun z hz=>by
  rcases List.mem_append.1 hz with hz|hz
  ·exact k.done z hz
  ·rw[List.mem_singleton.1 hz]
   exact⟨hid,hop,hv,hnw⟩
 rcases a.done with⟨h0,rfl⟩|⟨h0,i,hi,rfl,hik⟩
 ·simp(disch:=omega)only[go_sem,simprocAttr,hU,hlo,hsa,hsb,hso,QK.use hL,q3,QK.use hG,QK.use hA,QK.use hP,aW]
  simp only at h0
  refine⟨⟨Ca.setO ⟨W,N,⟨kd,lc,oa,ob⟩⟩ ⟨0,0,0,0⟩,⟨x.line,x.state,x.need,x.has,d'⟩,gone,true,sent,done++[⟨id,⟨kd,lc,oa,ob⟩,ol,nw⟩]⟩,vs,_,⟨aI (bU a.at_ _) _,(a.sent.setb _).app _,.inr ⟨by simp,H.length+1,by omega,by rw[h0];rfl,?_⟩⟩,⟨k.k.setO ⟨by simp,by simp,by simp,by simp⟩,⟨k.x.line,k.x.state,k.x.need,hdo⟩,k.sent,dok⟩,by simp,by simp,?_⟩
  ·rw[d8,h0]
   rfl
  ·exact⟨by simp,fun i hi hb _ _=>by rw[List.getElem?_append_left (by rw[List.length_set];exact hi),List.getElem?_set_ne (Ne.symm hb)],.inl rfl,.inr ⟨_,_,_,by omega,rfl⟩⟩
 ·have hiH:i<H.length:=(List.getElem?_eq_some_iff.1 hik).1
  have hUs:=fun X l=>aI (aO (bU hU X) (show i≠b by omega) none) l
  have hiks:=fun X l=>aI (aO hik (show b≠i by omega) X) l
  have hisb:∀(X:Option Blk) (l:aG),(H.set b X++l).set i none=(H.set b X).set i none++l:=fun X l=>List.set_append_left _ _ (by rw[List.length_set];exact hiH)
  simp(disch:=omega)only[go_sem,simprocAttr,hU,hlo,hsa,hsb,hso,hUs,hiks,hisb,iE,jA,QK.use hL,q3,QK.use hG,QK.use hA,QK.use hP,aW]
  have hne:=a.sent.ne2 hik (by decide)
  refine⟨⟨Ca.setO ⟨W,N,⟨kd,lc,oa,ob⟩⟩ ⟨0,0,0,0⟩,⟨x.line,x.state,x.need,x.has,d'⟩,gone,true,sent,done++[⟨id,⟨kd,lc,oa,ob⟩,ol,nw⟩]⟩,vs,_,⟨bU (hUs _ _) _,(((a.sent.setb _).set hne none).app _).setb _,.inr ⟨by simp,H.length+1,by omega,by rw[List.length_append];rfl,?_⟩⟩,⟨k.k.setO ⟨by simp,by simp,by simp,by simp⟩,⟨k.x.line,k.x.state,k.x.need,hdo⟩,k.sent,dok⟩,by simp,by simp,?_⟩
  ·rw[List.getElem?_set_ne (by omega)]
   have:=fun X l=>d8 (List.set H b X) l i none 1
   simp only[List.length_set]at this
   rw[this,dP]
   rfl
  ·exact⟨by simp,fun q hq hb _ hv=>by
    rw[List.getElem?_set_ne (Ne.symm hb),List.getElem?_append_left (by rw[List.length_set,List.length_set];exact hq),List.getElem?_set_ne,List.getElem?_set_ne (Ne.symm hb)]
    rintro rfl
    exact hv _ _ rfl,.inl rfl,.inr ⟨_,_,_,by omega,rfl⟩⟩
end
end Go.Proofs.YtpdphobnchajbaaGreatDoor.Ev
