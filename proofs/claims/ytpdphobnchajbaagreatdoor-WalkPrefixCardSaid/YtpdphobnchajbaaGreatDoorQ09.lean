/- (Its loops lie in the context.) -/
import Derived.Test.YtpdphobnchajbaaGreatDoorQ06
set_option linter.unusedSimpArgs false
set_option linter.unusedVariables false

namespace Go.Proofs.YtpdphobnchajbaaGreatDoor.Ev
open Go Go.RowKit
set_option maxRecDepth 100000
def QM(T:Tb)(md:MQ)(res:List ResultVar)(G:A→Prop)(ex:Ex)(st:St):Prop :=
 match ex with
 |.out _=>False
 |_=>∃ r,(dF T st res).bind (nP md st.H)=some r∧G r
section
variable{C:Ctx}{k:List It}{st:St}{Q:Ex→St→Prop}{dst:Option Nat}{n:Nat}{ms:List MOp}
theorem aKg{T:Tb}{md:MQ}{res:List ResultVar}{G:A→Prop}:QM T md res G .go st↔∃ r,(dF T st res).bind (nP md st.H)=some r∧G r:=Iff.rfl
theorem W8{T:Tb}{md:MQ}{res:List ResultVar}{G:A→Prop}:QM T md res G .back st↔∃ r,(dF T st res).bind (nP md st.H)=some r∧G r:=Iff.rfl
theorem cA{f:FuncId}{m:MFn}{zs:List A}{G:A→Prop}(hB:C.B f=some m)(hX:C.X f zs=none)(hl:zs.length≤m.nt)(h:bG C [.code m.body] ⟨iR 0 zs,[]⟩ (QM C.T m.mode m.res G)):∃ r,EvQ C f zs r∧G r:=by
 obtain⟨N,ex,st',h1,hq⟩:=h
 cases ex with
 |out id=>exact hq.elim
 |go =>
  obtain⟨r,h2,h3⟩:=hq
  exact⟨r,aX hB hX hl ⟨N,.go,st',h1,h2⟩,h3⟩
 |back =>
  obtain⟨r,h2,h3⟩:=hq
  exact⟨r,aX hB hX hl ⟨N,.back,st',h1,h2⟩,h3⟩
theorem bD{t:Bool}{a b:M}(h1:t=true→bG C (.code a::k) st Q)(h2:t=false→bG C (.code b::k) st Q):bG C (.code (bif t then a else b)::k) st Q:=by
 cases t
 ·exact h2 rfl
 ·exact h1 rfl
theorem bY{t:Bool}{m:MOp}(h1:t=true→l7 C (some true) n m ms st k Q)(h2:t=false→l7 C (some false) n m ms st k Q):l7 C (some t) n m ms st k Q:=by
 cases t
 ·exact h2 rfl
 ·exact h1 rfl
theorem aM{f:FuncId}{zs:List A}{G:A→aG→Prop}{e:Env}{H:aG}(h:bW C f zs H G)(hk:∀ x H',G x H'→iH C 0 ms ⟨put e dst x,H'⟩ k Q):bB C f zs dst ms ⟨e,H⟩ k Q:=by
 obtain⟨x,H',h1,h2⟩:=h
 exact⟨x,H',h1,hk x H' h2⟩
end
theorem IY{C:Ctx}{f:FuncId}{zs:List A}{dst:Option Nat}{ms:List MOp}{e:Env}{H:aG}{k:List It}{Q:Ex→Ev.St→Prop}{x:A}{H':aG}(h:EvO C f zs H x H')(hk:iH C 0 ms ⟨put e dst x,H'⟩ k Q):bB C f zs dst ms ⟨e,H⟩ k Q:=⟨x,H',h,hk⟩
section
variable{α:Type}
theorem e9(H:List α)(x:α)(l:List α):(H++x::l)[H.length]?=some x:=by simp
theorem C9(H:List α)(x y:α)(l:List α):(H++x::l).set H.length y=H++y::l:=by simp
theorem aZ(H l:List α)(k:Nat):(H++l)[H.length+k]?=l[k]?:=by
 rw[List.getElem?_append_right (by omega),Nat.add_sub_cancel_left]
theorem y6(H l:List α)(k:Nat)(y:α):(H++l).set (H.length+k) y=H++l.set k y:=by
 rw[List.set_append_right _ _ (by omega),Nat.add_sub_cancel_left]
end
section
variable{α:Type}
theorem iV{H:List α}{i:Nat}(h:i<H.length)(l:List α)(x:α):(H++l).set i x=H.set i x++l:=List.set_append_left _ _ h
theorem UY(H:List α)(i:Nat)(z x:α)(l:List α):(H.set i z++x::l)[H.length]?=some x:=by
 have:=e9 (H.set i z) x l
 rwa [List.length_set]at this
theorem d8(H l:List α)(i:Nat)(z:α)(k:Nat):(H.set i z++l)[H.length+k]?=l[k]?:=by
 have:=aZ (H.set i z) l k
 rwa [List.length_set]at this
theorem aIS(H:List α)(i:Nat)(z x y:α)(l:List α):(H.set i z++x::l).set H.length y=H.set i z++y::l:=by
 have:=C9 (H.set i z) x y l
 rwa [List.length_set]at this
theorem aJO(H l:List α)(i:Nat)(z:α)(k:Nat)(y:α):(H.set i z++l).set (H.length+k) y=H.set i z++l.set k y:=by
 have:=y6 (H.set i z) l k y
 rwa [List.length_set]at this
end
theorem aI{H:aG}{i:Nat}{a:Option Blk}(h:H[i]?=some a)(l:aG):(H++l)[i]?=some a:=by
 rw[List.getElem?_append_left (List.getElem?_eq_some_iff.1 h).1];exact h
theorem aO{H:aG}{i j:Nat}{a:Option Blk}(h:H[i]?=some a)(hne:j≠i)(x:Option Blk):(H.set j x)[i]?=some a:=by
 rw[List.getElem?_set_ne hne];exact h
attribute [go_sem] aKg W8 exists_eq_left' e9 C9 aZ y6 iV UY d8 aIS aJO List.length_append List.length_set List.append_assoc
def OkG(c h o s y:Int):Prop:=1≤c∧c≤4∧1≤h∧h≤2∧1≤o∧o≤4∧1≤s∧s≤4∧1≤y∧y≤4
instance(c h o s y:Int):Decidable (OkG c h o s y):=by unfold OkG;infer_instance
abbrev fR(c h o s y:Int):A:=.agg [I64 c,I64 h,I64 o,I64 s,I64 y]
attribute [go_sem] fR
theorem wrap8(n:Int):IntKind.u8.wrap n=n % 256:=by
 simp[IntKind.wrap,IntKind.bits,IntKind.signed]
section
variable{c h o s y:Int}
set_option maxHeartbeats 4000000
theorem wW(hk:OkG c h o s y){l:Int}(l1:0≤l)(l2:l≤255):EvQ Cx 82 [fR c h o s y,I8 l] (I8 (l/o)):=by
 obtain⟨c1,c2,h1,h2,o1,o2,s1,s2,y1,y2⟩:=id hk
 have d1:0≤l/o:=Int.ediv_nonneg (by omega) (by omega)
 have d2:l/o≤255:=Int.le_trans (Int.ediv_le_self _ l1) l2
 refine aX a8r rfl (by simp[aCN]) ?_
 simp(disch:=omega)only[go_sem,simprocAttr]
theorem aN8(hk:OkG c h o s y){l:Int}(l1:0≤l)(l2:l≤255):EvQ Cx 84 [fR c h o s y,I8 l] (I8 (l % o)):=by
 obtain⟨c1,c2,h1,h2,o1,o2,s1,s2,y1,y2⟩:=id hk
 have d1:=Int.emod_nonneg l (show o≠0 by omega)
 have d2:=Int.emod_lt_of_pos l (show 0<o by omega)
 refine aX a92 rfl (by simp[aEb]) ?_
 simp(disch:=omega)only[go_sem,simprocAttr]
theorem gQ(hk:OkG c h o s y):EvQ Cx 34 [fR c h o s y] (Bo true):=by
 obtain⟨c1,c2,h1,h2,o1,o2,s1,s2,y1,y2⟩:=id hk
 refine aX aOR rfl (by simp[X6]) ?_
 simp(disch:=omega)only[go_sem,simprocAttr]
 iterate 6 (rw[aA];simp(disch:=omega)only[go_sem,simprocAttr])
set_option maxHeartbeats 16000000 in
theorem XA(hk:¬ OkG c h o s y):EvQ Cx 34 [fR c h o s y] (Bo false):=by
 refine aX aOR rfl (by simp[X6]) ?_
 simp(disch:=omega)only[go_sem,simprocAttr]
 rw[aA]
 by_cases k0:1≤c
 case neg=>simp(disch:=omega)only[go_sem,simprocAttr]
 by_cases k1:c≤4
 case neg=>simp(disch:=omega)only[go_sem,simprocAttr]
 simp(disch:=omega)only[go_sem,simprocAttr]
 rw[aA]
 by_cases k2:1≤h
 case neg=>simp(disch:=omega)only[go_sem,simprocAttr]
 by_cases k3:h≤2
 case neg=>simp(disch:=omega)only[go_sem,simprocAttr]
 simp(disch:=omega)only[go_sem,simprocAttr]
 rw[aA]
 by_cases k4:1≤o
 case neg=>simp(disch:=omega)only[go_sem,simprocAttr]
 by_cases k5:o≤4
 case neg=>simp(disch:=omega)only[go_sem,simprocAttr]
 simp(disch:=omega)only[go_sem,simprocAttr]
 rw[aA]
 by_cases k6:1≤s
 case neg=>simp(disch:=omega)only[go_sem,simprocAttr]
 by_cases k7:s≤4
 case neg=>simp(disch:=omega)only[go_sem,simprocAttr]
 simp(disch:=omega)only[go_sem,simprocAttr]
 rw[aA]
 by_cases k8:1≤y
 case neg=>simp(disch:=omega)only[go_sem,simprocAttr]
 by_cases k9:y≤4
 case neg=>simp(disch:=omega)only[go_sem,simprocAttr]
 exact absurd ⟨k0,k1,k2,k3,k4,k5,k6,k7,k8,k9⟩ hk
theorem aCg(c h o s y:Int):EvQ Cx 34 [fR c h o s y] (Bo (decide (OkG c h o s y))):=by
 by_cases hk:OkG c h o s y
 ·rw[decide_eq_true hk]
  exact gQ hk
 ·rw[decide_eq_false hk]
  exact XA hk
theorem gU(hk:OkG c h o s y):EvQ Cx 81 [fR c h o s y] (.tup [fR c h o s y,Bo true]):=by
 have hR:=gQ hk
 refine aX a7K rfl (by simp[aAo]) ?_
 simp(disch:=omega)only[go_sem,simprocAttr,aD aOF,QK.use hR]
theorem u7(hk:OkG c h o s y):EvQ Cx 44 [fR c h o s y] (I64 (5/o+1)):=by
 have hV:=gU hk
 have hL:=wW hk (l:=5) (by omega) (by omega)
 obtain⟨c1,c2,h1,h2,o1,o2,s1,s2,y1,y2⟩:=id hk
 have d1:0≤5/o:=Int.ediv_nonneg (by omega) (by omega)
 have d2:5/o≤5:=Int.ediv_le_self _ (by omega)
 refine aX a5x rfl (by simp[aC7]) ?_
 simp(disch:=omega)only[go_sem,simprocAttr,aD pE,QK.use hV,aD aOa,QK.use hL]
theorem MC(hk:OkG c h o s y){l:Int}(l1:0≤l)(l2:l≤255):EvQ Cx 178 [fR c h o s y,I8 l] (I8 (l/o)):=by
 have hV:=gU hk
 have hL:=wW hk l1 l2
 refine aX a1f rfl (by simp[JC]) ?_
 simp(disch:=omega)only[go_sem,simprocAttr,aD pE,QK.use hV,aD aOa,QK.use hL]
theorem bCz(hk:OkG c h o s y){l:Int}(l1:0≤l)(l2:l≤255):EvQ Cx 284 [fR c h o s y,I8 l] (I8 (l % s)):=by
 have hV:=gU hk
 obtain⟨c1,c2,h1,h2,o1,o2,s1,s2,y1,y2⟩:=id hk
 have d1:=Int.emod_nonneg l (show s≠0 by omega)
 have d2:=Int.emod_lt_of_pos l (show 0<s by omega)
 refine aX a1W rfl (by simp[FW]) ?_
 simp(disch:=omega)only[go_sem,simprocAttr,aD pE,QK.use hV]
theorem wF(hk:OkG c h o s y){l:Int}(l1:0≤l)(l2:l≤255):EvQ Cx 233 [fR c h o s y,I8 l] (I8 (c+l % h)):=by
 have hV:=gU hk
 obtain⟨c1,c2,h1,h2,o1,o2,s1,s2,y1,y2⟩:=id hk
 have d1:=Int.emod_nonneg l (show h≠0 by omega)
 have d2:=Int.emod_lt_of_pos l (show 0<h by omega)
 refine aX aZ3 rfl (by simp[MJ]) ?_
 simp(disch:=omega)only[go_sem,simprocAttr,aD pE,QK.use hV]
theorem LI(hk:OkG c h o s y){n:Int}(n1:0≤n)(n2:n≤255):EvQ Cx 119 [fR c h o s y,I8 n] (Bo (decide (n<c))):=by
 have hV:=gU hk
 obtain⟨c1,c2,h1,h2,o1,o2,s1,s2,y1,y2⟩:=id hk
 refine aX aXQ rfl (by simp[KH]) ?_
 by_cases h1:n<c
 ·rw[decide_eq_true h1]
  simp(disch:=omega)only[go_sem,simprocAttr,aD pE,QK.use hV,aK zM zH,aK zT zO]
 ·rw[decide_eq_false h1]
  simp(disch:=omega)only[go_sem,simprocAttr,aD pE,QK.use hV,aK zM zH,aK zT zO]
theorem aJl(hk:OkG c h o s y){n:Int}(n1:0≤n)(n2:n≤255):EvQ Cx 122 [fR c h o s y,I8 n] (Bo (decide (c≤n∧n<c+h))):=by
 have hV:=gU hk
 obtain⟨c1,c2,h1,h2,o1,o2,s1,s2,y1,y2⟩:=id hk
 refine aX aVZ rfl (by simp[J1]) ?_
 by_cases h1:c≤n
 ·by_cases h2:n<c+h
  ·rw[decide_eq_true ⟨h1,h2⟩]
   simp(disch:=omega)only[go_sem,simprocAttr,aD pE,QK.use hV,aK zM zH,aK zT zO]
  ·rw[decide_eq_false (fun x=>h2 x.2)]
   simp(disch:=omega)only[go_sem,simprocAttr,aD pE,QK.use hV,aK zM zH,aK zT zO]
 ·rw[decide_eq_false (fun x=>h1 x.1)]
  simp(disch:=omega)only[go_sem,simprocAttr,aD pE,QK.use hV,aK zM zH,aK zT zO]
structure D4 where
 a:Int
 b:Int
 c:Int
 d:Int
structure D4.Ok(x:D4):Prop where
 a:0≤x.a∧x.a<256
 b:0≤x.b∧x.b<256
 c:0≤x.c∧x.c<256
 d:0≤x.d∧x.d<256
abbrev cD4(x:D4):List A:=[I8 x.a,I8 x.b,I8 x.c,I8 x.d]
attribute [go_sem] cD4
def D4.at(x:D4)(n:Int):Int:=if n=0 then x.a else if n=1 then x.b else if n=2 then x.c else x.d
def D4.to(x:D4)(n v:Int):D4:=if n=0 then⟨v,x.b,x.c,x.d⟩else if n=1 then⟨x.a,v,x.c,x.d⟩else if n=2 then⟨x.a,x.b,v,x.d⟩else⟨x.a,x.b,x.c,v⟩
theorem D4.Ok.at{x:D4}(k:x.Ok)(n:Int):0≤x.at n∧x.at n<256:=by
 unfold D4.at
 split
 ·exact k.a
 ·split
  ·exact k.b
  ·split
   ·exact k.c
   ·exact k.d
theorem D4.Ok.to{x:D4}(k:x.Ok)(n:Int){v:Int}(hv:0≤v∧v<256):(x.to n v).Ok:=by
 unfold D4.to
 split
 ·exact⟨hv,k.b,k.c,k.d⟩
 ·split
  ·exact⟨k.a,hv,k.c,k.d⟩
  ·split
   ·exact⟨k.a,k.b,hv,k.d⟩
   ·exact⟨k.a,k.b,k.c,hv⟩
theorem bCK(hk:OkG c h o s y)(x:D4){l:Int}(l1:0≤l)(l2:l≤255):EvQ Cx 333 [fR c h o s y,.agg (cD4 x),I8 l] (I8 (x.at (l % o))):=by
 have hV:=gU hk
 have hW:=aN8 hk l1 l2
 obtain⟨c1,c2,h1,h2,o1,o2,s1,s2,y1,y2⟩:=id hk
 have d1:=Int.emod_nonneg l (show o≠0 by omega)
 have d2:=Int.emod_lt_of_pos l (show 0<o by omega)
 generalize l % o=q at *
 refine aX aZC rfl (by simp[KD]) ?_
 have hq:q=0∨q=1∨q=2∨q=3:=by omega
 rcases hq with rfl|rfl|rfl|rfl
 all_goals simp(disch:=omega)only[go_sem,simprocAttr,aD pE,QK.use hV,aD aOv,QK.use hW,D4.at]
theorem a9p(hk:OkG c h o s y)(x:D4){l:Int}(l1:0≤l)(l2:l≤255)(v:Int):EvQ Cx 46 [fR c h o s y,.agg (cD4 x),I8 l,I8 v] (.agg (cD4 (x.to (l % o) v))):=by
 have hV:=gU hk
 have hW:=aN8 hk l1 l2
 obtain⟨c1,c2,h1,h2,o1,o2,s1,s2,y1,y2⟩:=id hk
 have d1:=Int.emod_nonneg l (show o≠0 by omega)
 have d2:=Int.emod_lt_of_pos l (show 0<o by omega)
 generalize l % o=q at *
 refine aX bBy rfl (by simp[aDZ]) ?_
 have hq:q=0∨q=1∨q=2∨q=3:=by omega
 rcases hq with rfl|rfl|rfl|rfl
 all_goals simp(disch:=omega)only[go_sem,simprocAttr,aD pE,QK.use hV,aD aOv,QK.use hW,D4.to]
end
abbrev J8(n:Int):A:=.v (.int .i8 n)
abbrev W64(n:Int):A:=.v (.int .u64 n)
structure Ln where
 line:Int
 state:Int
 need:Int
 has:Bool
 d:D4
structure Ln.Ok(x:Ln):Prop where
 line:0≤x.line∧x.line<256
 state:0≤x.state∧x.state<256
 need:-128≤x.need∧x.need<128
 d:x.d.Ok
abbrev cL(x:Ln):List A:=[I8 x.line,I8 x.state,J8 x.need,Bo x.has,I8 x.d.a,I8 x.d.b,I8 x.d.c,I8 x.d.d]
attribute [go_sem] cL
structure Rp where
 kind:Int
 ways:Int
 o0:Int
 o1:Int
 o2:Int
 o3:Int
 b:Int
structure Rp.Ok(r:Rp):Prop where
 kind:0≤r.kind∧r.kind<256
 o0:0≤r.o0∧r.o0<256
 o1:0≤r.o1∧r.o1<256
 o2:0≤r.o2∧r.o2<256
 o3:0≤r.o3∧r.o3<256
 b:0≤r.b∧r.b<256
 ways:-9223372036854775808≤r.ways∧r.ways≤9223372036854775807
abbrev cR(r:Rp):List A:=[I8 r.kind,I64 r.ways,I8 r.o0,I8 r.o1,I8 r.o2,I8 r.o3,I8 r.b]
attribute [go_sem] cR
structure Rq where
 kind:Int
 loc:Int
 a:Int
 b:Int
structure Rq.Ok(r:Rq):Prop where
 kind:0≤r.kind∧r.kind<256
 loc:0≤r.loc∧r.loc<256
 a:0≤r.a∧r.a<256
 b:0≤r.b∧r.b<256
abbrev cO(r:Rq):List A:=[I8 r.kind,I8 r.loc,I8 r.a,I8 r.b]
attribute [go_sem] cO
structure Ca where
 W:Nat→Nat→Ln
 N:Nat→Rp
 op:Rq
structure Ca.Ok(k:Ca):Prop where
 W:∀ s w,s<4→w<4→(k.W s w).Ok
 N:∀ s,s<4→(k.N s).Ok
 op:k.op.Ok
def Ca.setW(k:Ca)(s w:Nat)(x:Ln):Ca:=⟨fun i j=>if i=s∧j=w then x else k.W i j,k.N,k.op⟩
def Ca.setN(k:Ca)(s:Nat)(r:Rp):Ca:=⟨k.W,fun i=>if i=s then r else k.N i,k.op⟩
def Ca.setO(k:Ca)(o:Rq):Ca:=⟨k.W,k.N,o⟩
theorem Ca.Ok.setW{k:Ca}(h:k.Ok){s w:Nat}{x:Ln}(hx:x.Ok):(k.setW s w x).Ok:=⟨fun i j hi hj=>by
 show(if i=s∧j=w then x else k.W i j).Ok
 split
 ·exact hx
 ·exact h.W i j hi hj,h.N,h.op⟩
theorem Ca.Ok.setN{k:Ca}(h:k.Ok){s:Nat}{r:Rp}(hr:r.Ok):(k.setN s r).Ok:=⟨h.W,fun i hi=>by
 show(if i=s then r else k.N i).Ok
 split
 ·exact hr
 ·exact h.N i hi,h.op⟩
theorem Ca.Ok.setO{k:Ca}(h:k.Ok){o:Rq}(ho:o.Ok):(k.setO o).Ok:=⟨h.W,h.N,ho⟩
theorem Ca.setW_N(k:Ca)(s w:Nat)(x:Ln)(i:Nat):(k.setW s w x).N i=k.N i:=rfl
def cC(k:Ca):List A:=cL (k.W 0 0)++(cL (k.W 0 1)++(cL (k.W 0 2)++(cL (k.W 0 3)++(cL (k.W 1 0)++(cL (k.W 1 1)++(cL (k.W 1 2)++(cL (k.W 1 3)++(cL (k.W 2 0)++(cL (k.W 2 1)++(cL (k.W 2 2)++(cL (k.W 2 3)++(cL (k.W 3 0)++(cL (k.W 3 1)++(cL (k.W 3 2)++(cL (k.W 3 3)++(cR (k.N 0)++(cR (k.N 1)++(cR (k.N 2)++(cR (k.N 3)++(cO k.op))))))))))))))))))))
theorem aY(k:Ca):(cC k).length=160:=rfl
theorem rK(k:Ca):dE (cC k)=true:=rfl
theorem aGp(k:Ca):shut.shutL (cC k)=true:=rfl
theorem aLU(k:Ca):iA.flatL (cC k)=true:=rfl
theorem a5O(k:Ca)(H:aG)(n:Nat):bQ (freeze H (n+1)) (cC k)=some (cC k):=by
 simp only[cC,List.cons_append,List.nil_append,cV,GN,qY]
theorem sF(k:Ca){s w:Nat}(hs:s<4)(hw:w<4):List.drop (s*32+w*8) (cC k)=cL (k.W s w)++List.drop (s*32+w*8+8) (cC k):=by
 obtain rfl|rfl|rfl|rfl:s=0∨s=1∨s=2∨s=3:=(by omega)<;>obtain rfl|rfl|rfl|rfl:w=0∨w=1∨w=2∨w=3:=(by omega)<;>rfl
theorem tK(k:Ca){s w:Nat}(hs:s<4)(hw:w<4):List.drop (w*8) (List.drop (s*32) (cC k))=cL (k.W s w)++List.drop (s*32+w*8+8) (cC k):=by
 rw[List.drop_drop]
 exact sF k hs hw
theorem DS(k:Ca){s w:Nat}(hs:s<4)(hw:w<4)(x:Ln):List.take (s*32+w*8) (cC k)++cL x++List.drop (s*32+w*8+8) (cC k)=cC (k.setW s w x):=by
 obtain rfl|rfl|rfl|rfl:s=0∨s=1∨s=2∨s=3:=(by omega)<;>obtain rfl|rfl|rfl|rfl:w=0∨w=1∨w=2∨w=3:=(by omega)<;>rfl
theorem EU(k:Ca){s:Nat}(hs:s<4):List.drop (128+s*7) (cC k)=cR (k.N s)++List.drop (128+s*7+7) (cC k):=by
 obtain rfl|rfl|rfl|rfl:s=0∨s=1∨s=2∨s=3:=(by omega)<;>rfl
theorem TG(k:Ca){s:Nat}(hs:s<4)(r:Rp):List.take (128+s*7) (cC k)++cR r++List.drop (128+s*7+7) (cC k)=cC (k.setN s r):=by
 obtain rfl|rfl|rfl|rfl:s=0∨s=1∨s=2∨s=3:=(by omega)<;>rfl
theorem B8(k:Ca):List.drop 156 (cC k)=cO k.op:=rfl
theorem WQ(k:Ca)(o:Rq):List.take 156 (cC k)++cO o=cC (k.setO o):=rfl
attribute [irreducible] cC
structure Mg where
 kind:Int
 src:Int
 dst:Int
 line:Int
 asker:Int
 acks:Int
 alone:Bool
 d:D4
structure Mg.Ok(m:Mg):Prop where
 kind:0≤m.kind∧m.kind<256
 src:0≤m.src∧m.src<256
 dst:0≤m.dst∧m.dst<256
 line:0≤m.line∧m.line<256
 asker:0≤m.asker∧m.asker<256
 acks:0≤m.acks∧m.acks<256
 d:m.d.Ok
abbrev cM(m:Mg):List A:=[I8 m.kind,I8 m.src,I8 m.dst,I8 m.line,I8 m.asker,I8 m.acks,Bo m.alone,I8 m.d.a,I8 m.d.b,I8 m.d.c,I8 m.d.d]
attribute [go_sem] cM
structure Pf where
 core:Int
 op:Rq
 old:Int
 new:Int
structure Pf.Ok(p:Pf):Prop where
 core:0≤p.core∧p.core<256
 op:p.op.Ok
 old:0≤p.old∧p.old<256
 new:0≤p.new∧p.new<256
abbrev cP(p:Pf):List A:=[I8 p.core,I8 p.op.kind,I8 p.op.loc,I8 p.op.a,I8 p.op.b,I8 p.old,I8 p.new]
attribute [go_sem] cP
structure Dr where
 state:Int
 owner:Int
 kind:Int
 mask:Nat
 all:Bool
 wait:Int
 asker:Int
 d:D4
structure Dr.Ok(x:Dr):Prop where
 state:0≤x.state∧x.state<256
 owner:0≤x.owner∧x.owner<256
 kind:0≤x.kind∧x.kind<256
 mask:x.mask<18446744073709551616
 wait:0≤x.wait∧x.wait<256
 asker:0≤x.asker∧x.asker<256
 d:x.d.Ok
abbrev cD(x:Dr):List A:=[I8 x.state,I8 x.owner,I8 x.kind,W64 x.mask,Bo x.all,I8 x.wait,I8 x.asker,I8 x.d.a,I8 x.d.b,I8 x.d.c,I8 x.d.d]
attribute [go_sem] cD
structure Bs where
 loc:Int
 val:Int
structure Bs.Ok(x:Bs):Prop where
 loc:0≤x.loc∧x.loc<256
 val:0≤x.val∧x.val<256
def cells{α:Type}(c:α→List A):List α→List A
 |[]=>[]
 |x::l=>c x++cells c l
theorem dP{α:Type}(c:α→List A):∀ a b:List α,cells c (a++b)=cells c a++cells c b
 |[],b=>rfl
 |x::a,b=>by simp only[List.cons_append,cells,dP c a b,List.append_assoc]
structure Sp where
 kind:Int
 node:Int
 line:Int
 m:Mg
structure Sp.Ok(x:Sp):Prop where
 kind:0≤x.kind∧x.kind<256
 node:0≤x.node∧x.node<256
 line:0≤x.line∧x.line<256
 m:x.m.Ok
abbrev cS(x:Sp):List A:=[I8 x.kind,I8 x.node,I8 x.line,I8 x.m.kind,I8 x.m.src,I8 x.m.dst,I8 x.m.line,I8 x.m.asker,I8 x.m.acks,Bo x.m.alone,I8 x.m.d.a,I8 x.m.d.b,I8 x.m.d.c,I8 x.m.d.d]
attribute [go_sem] cS
abbrev eS(x:Sp):A:=.agg (cS x)
def Mg.eqB(x y:Mg):Bool:=decide (x.kind=y.kind∧x.src=y.src∧x.dst=y.dst∧x.line=y.line∧x.asker=y.asker∧x.acks=y.acks∧x.alone=y.alone∧x.d.a=y.d.a∧x.d.b=y.d.b∧x.d.c=y.d.c∧x.d.d=y.d.d)
theorem Mg.eqB_iff(x y:Mg):x.eqB y=true↔x=y:=by
 unfold Mg.eqB
 rw[decide_eq_true_iff]
 constructor
 ·obtain⟨a,b,c,d,e,f,g,h,i,j,k⟩:=x
  obtain⟨a',b',c',d',e',f',g',h',i',j',k'⟩:=y
  rintro⟨rfl,rfl,rfl,rfl,rfl,rfl,rfl,rfl,rfl,rfl,rfl⟩
  rfl
 ·rintro rfl
  exact⟨rfl,rfl,rfl,rfl,rfl,rfl,rfl,rfl,rfl,rfl,rfl⟩
def Sp.eqB(x y:Sp):Bool:=decide (x.kind=y.kind∧x.node=y.node∧x.line=y.line)&&x.m.eqB y.m
theorem Sp.eqB_iff(x y:Sp):x.eqB y=true↔x=y:=by
 unfold Sp.eqB
 rw[Bool.and_eq_true,decide_eq_true_iff,Mg.eqB_iff]
 constructor
 ·obtain⟨a,b,c,d⟩:=x
  obtain⟨a',b',c',d'⟩:=y
  rintro⟨⟨rfl,rfl,rfl⟩,rfl⟩
  rfl
 ·rintro rfl
  exact⟨⟨rfl,rfl,rfl⟩,rfl⟩
def rZ(x:Mg):List Mg→Bool
 |[]=>false
 |y::l=>bif y.eqB x then true else rZ x l
theorem zL{x:Mg}:∀{l:List Mg},rZ x l=true↔x∈l
 |[]=>by simp[rZ]
 |y::l=>by
  rw[rZ]
  cases h:y.eqB x with
  |true =>
   rw[Mg.eqB_iff]at h
   subst h
   simp
  |false =>
   have:¬ y=x:=fun e=>by rw[(Mg.eqB_iff _ _).2 e]at h;cases h
   rw[cond_false,zL,List.mem_cons]
   exact⟨.inr,fun e=>e.resolve_left fun e=>this e.symm⟩
def dd:List Mg→List Mg→List Mg
 |_,[]=>[]
 |s,m::l=>bif rZ m s then dd s l else m::dd (s++[m]) l
theorem M8{x:Mg}:∀{l s:List Mg},x∈dd s l↔x∈l∧x ∉ s
 |[],s=>by simp[dd]
 |m::l,s=>by
  rw[dd]
  cases h:rZ m s with
  |true =>
   have hm:=zL.1 h
   rw[cond_true,M8,List.mem_cons]
   constructor
   ·rintro⟨a,b⟩
    exact⟨.inr a,b⟩
   ·rintro⟨rfl|a,b⟩
    ·exact absurd hm b
    ·exact⟨a,b⟩
  |false =>
   have hm:m ∉ s:=fun e=>by rw[zL.2 e]at h;cases h
   rw[cond_false,List.mem_cons,M8,List.mem_cons,List.mem_append,List.mem_singleton]
   constructor
   ·rintro(rfl|⟨a,b⟩)
    ·exact⟨.inl rfl,hm⟩
    ·exact⟨.inr a,fun e=>b (.inl e)⟩
   ·rintro⟨rfl|a,b⟩
    ·exact .inl rfl
    ·by_cases e:x=m
     ·exact .inl e
     ·exact .inr ⟨a,fun e'=>e'.elim b e⟩
def zMg:Mg:=⟨0,0,0,0,0,0,false,⟨0,0,0,0⟩⟩
def l9(k:Int)(c:Nat):List Sp:=(List.range c).map fun i:Nat=>⟨k,(i:Int),0,zMg⟩
def uM(L i:Nat):List Sp:=(List.range L).map fun j:Nat=>⟨4,(i:Int),(j:Int),zMg⟩
def evS(c L:Nat):List Sp:=(List.range c).flatMap (uM L)
def A2(ms:List Mg):List Sp:=ms.map fun m=>⟨5,0,0,m⟩
def AM(c L:Nat)(ms:List Mg):List Sp:=l9 1 c++(l9 2 c++(l9 3 c++(evS c L++A2 (dd [] ms))))
def DY(c L:Nat)(x:Sp):Prop :=
 ((x.kind=1∨x.kind=2∨x.kind=3)∧x.m=zMg∧x.node<c∧x.line=0)∨(x.kind=4∧x.m=zMg∧x.node<c∧x.line<L)∨(x.kind=5∧x.node=0∧x.line=0)
theorem X1{k:Int}{c:Nat}{x:Sp}:x∈l9 k c↔x.kind=k∧x.m=zMg∧(0≤x.node∧x.node<c)∧x.line=0:=by
 unfold l9
 simp only[List.mem_map,List.mem_range]
 constructor
 ·rintro⟨i,hi,rfl⟩
  exact⟨rfl,rfl,⟨by simp,by simp;exact hi⟩,rfl⟩
 ·obtain⟨a,b,e,m⟩:=x
  rintro⟨rfl,rfl,⟨h0,h1⟩,rfl⟩
  simp only at h0 h1
  exact⟨b.toNat,by omega,by rw[Int.toNat_of_nonneg h0]⟩
theorem aLP{c L:Nat}{x:Sp}:x∈evS c L↔x.kind=4∧x.m=zMg∧(0≤x.node∧x.node<c)∧(0≤x.line∧x.line<L):=by
 unfold evS uM
 simp only[List.mem_flatMap,List.mem_map,List.mem_range]
 constructor
 ·rintro⟨i,hi,j,hj,rfl⟩
  exact⟨rfl,rfl,⟨by simp,by simp;exact hi⟩,⟨by simp,by simp;exact hj⟩⟩
 ·obtain⟨a,b,e,m⟩:=x
  rintro⟨rfl,rfl,⟨h0,h1⟩,⟨h2,h3⟩⟩
  simp only at h0 h1 h2 h3
  exact⟨b.toNat,by omega,e.toNat,by omega,by rw[Int.toNat_of_nonneg h0,Int.toNat_of_nonneg h2]⟩
theorem aBs{ms:List Mg}{x:Sp}:x∈A2 ms↔x.kind=5∧x.node=0∧x.line=0∧x.m∈ms:=by
 unfold A2
 simp only[List.mem_map]
 constructor
 ·rintro⟨m,hm,rfl⟩
  exact⟨rfl,rfl,rfl,hm⟩
 ·obtain⟨a,b,e,m⟩:=x
  rintro⟨rfl,rfl,rfl,h⟩
  exact⟨m,h,rfl⟩
theorem YN{c L:Nat}{ms:List Mg}{x:Sp}:x∈AM c L ms↔(((x.kind=1∨x.kind=2∨x.kind=3)∧x.m=zMg∧(0≤x.node∧x.node<c)∧x.line=0)∨(x.kind=4∧x.m=zMg∧(0≤x.node∧x.node<c)∧(0≤x.line∧x.line<L))∨(x.kind=5∧x.node=0∧x.line=0∧x.m∈ms)):=by
 unfold AM
 simp only[List.mem_append,X1,aLP,aBs,M8,List.not_mem_nil,not_false_eq_true,and_true]
 constructor
 ·rintro(h|h|h|h|h)
  ·exact .inl ⟨.inl h.1,h.2⟩
  ·exact .inl ⟨.inr (.inl h.1),h.2⟩
  ·exact .inl ⟨.inr (.inr h.1),h.2⟩
  ·exact .inr (.inl h)
  ·exact .inr (.inr h)
 ·rintro(⟨h|h|h,h'⟩|h|h)
  ·exact .inl ⟨h,h'⟩
  ·exact .inr (.inl ⟨h,h'⟩)
  ·exact .inr (.inr (.inl ⟨h,h'⟩))
  ·exact .inr (.inr (.inr (.inl h)))
  ·exact .inr (.inr (.inr (.inr h)))
def dis(e:Int):Bool:=decide (e=312)||(decide (e=6)||decide (e=272))
def okS(E:Sp→Int)(c L:Nat)(ms:List Mg):List Sp:=(AM c L ms).filter fun x=>!dis (E x)
structure Esp(E:Sp→Int)(c L:Nat)(ms:List Mg):Prop where
 form:∀ x:Sp,x.Ok→¬ DY c L x→E x=312
 none:∀ x:Sp,x.Ok→x.kind=5→x.m ∉ ms→dis (E x)=true
end Go.Proofs.YtpdphobnchajbaaGreatDoor.Ev
