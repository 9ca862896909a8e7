/- Replacement states. -/
import Derived.Test.YtpdphobnchajbaaGreatDoorQ09
set_option linter.unusedSimpArgs false
set_option linter.unusedVariables false
namespace Go.Proofs.YtpdphobnchajbaaGreatDoor.Ev
open Go Go.RowKit
set_option maxRecDepth 100000
def sQ(w:Nat):List Int→Nat→Nat→Bool
 |[],_,_=>true
 |o::l,p,s=>if w≤p then decide (o=0)&&sQ w l (p+1) s else if(w:Int)≤o∨s.testBit o.toNat=true then false else sQ w l (p+1) (s ||| 2 ^ o.toNat)
theorem Q9:∀ o:Nat,o<4→IntKind.u64.wrap (1*2 ^ (min o IntKind.u64.bits))=((2 ^ o:Nat):Int):=by decide +kernel
theorem aLG:∀ s:Nat,s<16→∀ o:Nat,o<4→(IntKind.u64.wrap ((BitVec.ofInt IntKind.u64.bits (s:Int) &&& BitVec.ofInt IntKind.u64.bits ((2 ^ o:Nat):Int)).toNat:Int) !=0)=s.testBit o:=by decide +kernel
theorem aDe:∀ s:Nat,s<16→∀ o:Nat,o<4→IntKind.u64.wrap ((BitVec.ofInt IntKind.u64.bits (s:Int) ||| BitVec.ofInt IntKind.u64.bits ((2 ^ o:Nat):Int)).toNat:Int)=((s ||| 2 ^ o:Nat):Int):=by decide +kernel
theorem aOr:∀ s:Nat,s<16→∀ o:Nat,o<4→s ||| 2 ^ o<16:=by decide +kernel
set_option maxHeartbeats 8000000 in
theorem qW{k b o0 o1 o2 o3 o:Int}{w:Nat}(w1:1≤w)(w4:w≤4){KK:List It}{Q:Ex→Ev.St→Prop}{p s:Nat}(hp:p<4)(hs:s<16)(hix:([I8 o0,I8 o1,I8 o2,I8 o3]:List A)[p]?=some (I8 o))(b0:0≤o)(b1:o<256){l:List Int}
  (hF':sQ w (o::l) p s=false→dN Cx .back KK ⟨[(2,Bo false)],[some ⟨118,[I8 k,I64 w,I8 o0,I8 o1,I8 o2,I8 o3,I8 b],true⟩]⟩ Q)
  (hT:∀ s',s'<16→sQ w (o::l) p s=sQ w l (p+1) s'→bG Cx (.code (.loop ET)::KK) ⟨[(1,.ptr 0 0),(3,W64 s'),(7,.agg [I8 o0,I8 o1,I8 o2,I8 o3]),(8,I64 ((p:Int)+1))],[some ⟨118,[I8 k,I64 w,I8 o0,I8 o1,I8 o2,I8 o3,I8 b],true⟩]⟩ Q) :
  bG Cx (.code (.loop ET)::KK) ⟨[(1,.ptr 0 0),(3,W64 s),(7,.agg [I8 o0,I8 o1,I8 o2,I8 o3]),(8,I64 p)],[some ⟨118,[I8 k,I64 w,I8 o0,I8 o1,I8 o2,I8 o3,I8 b],true⟩]⟩ Q:=by
 have hp':p+1≤4:=hp
 rw[aA]
 by_cases hwp:w≤p
 ·by_cases h0:o=0
  ·have:=hT s hs (by simp[sQ,hwp,h0])
   subst h0
   simp(disch:=omega)only[hix,hp',Nat.mul_one,go_sem,simprocAttr]
   rw[aB (l:=[1,3,7,8]) rfl]
   simp(disch:=omega)only[go_sem,simprocAttr]
   exact this
  ·have:=hF' (by simp[sQ,hwp,h0])
   simp(disch:=omega)only[hix,hp',Nat.mul_one,go_sem,simprocAttr]
   exact this
 ·by_cases hwo:(w:Int)≤o
  ·have:=hF' (by simp[sQ,hwp,hwo])
   simp(disch:=omega)only[hix,hp',Nat.mul_one,go_sem,simprocAttr]
   exact this
  ·obtain⟨n,rfl⟩:∃ n:Nat,o=n:=⟨o.toNat,by omega⟩
   have hn:n<4:=by omega
   have hshl:=Q9 n hn
   have hand:=aLG s hs n hn
   have hor:=aDe s hs n hn
   simp(disch:=omega)only[go_sem,simprocAttr]at hshl hand hor
   cases ht:s.testBit n with
   |true =>
    have:=hF' (by simp[sQ,hwp,ht])
    rw[ht]at hand
    simp(disch:=omega)only[hix,hp',Nat.mul_one,hshl,hand,go_sem,simprocAttr]
    exact this
   |false =>
    have:=hT (s ||| 2 ^ n) (aOr s hs n hn) (by simp[sQ,hwp,hwo,ht])
    rw[ht]at hand
    simp(disch:=omega)only[hix,hp',Nat.mul_one,hshl,hand,hor,go_sem,simprocAttr]
    rw[aB (l:=[1,3,7,8]) rfl]
    simp(disch:=omega)only[go_sem,simprocAttr]
    exact this
set_option maxHeartbeats 8000000 in
theorem P3{k b o0 o1 o2 o3:Int}{w:Nat}(w1:1≤w)(w4:w≤4)(a0:0≤o0∧o0<256)(a1:0≤o1∧o1<256)(a2:0≤o2∧o2<256)(a3:0≤o3∧o3<256) :
  EvQ Cx 330 [.agg [I8 k,I64 w,I8 o0,I8 o1,I8 o2,I8 o3,I8 b]] (Bo (sQ w [o0,o1,o2,o3] 0 0)):=by
 refine aX aSo rfl (by simp[JP]) ?_
 simp(disch:=omega)only[go_sem,simprocAttr]
 rw[aB (l:=[1,3,7,8]) rfl]
 simp(disch:=omega)only[go_sem,simprocAttr]
 refine qW w1 w4 (p:=0) (s:=0) (l:=[o1,o2,o3]) (by decide) (by decide) rfl a0.1 a0.2 (fun h=>?_) (fun s1 g1 e1=>?_)
 ·rw[h]
  simp(disch:=omega)only[go_sem,simprocAttr]
 rw[e1]
 refine qW w1 w4 (p:=1) (s:=s1) (l:=[o2,o3]) (by decide) g1 rfl a1.1 a1.2 (fun h=>?_) (fun s2 g2 e2=>?_)
 ·rw[h]
  simp(disch:=omega)only[go_sem,simprocAttr]
 rw[e2]
 refine qW w1 w4 (p:=2) (s:=s2) (l:=[o3]) (by decide) g2 rfl a2.1 a2.2 (fun h=>?_) (fun s3 g3 e3=>?_)
 ·rw[h]
  simp(disch:=omega)only[go_sem,simprocAttr]
 rw[e3]
 refine qW w1 w4 (p:=3) (s:=s3) (l:=[]) (by decide) g3 rfl a3.1 a3.2 (fun h=>?_) (fun s4 g4 e4=>?_)
 ·rw[h]
  simp(disch:=omega)only[go_sem,simprocAttr]
 rw[e4]
 have e:(((3:Nat):Int)+1)=4:=rfl
 rw[aA]
 simp(disch:=omega)only[Int.lt_irrefl,go_sem,simprocAttr]
 rfl
def aLx(k w o0 o1 o2 o3 b:Int):Bool :=
 if w<1∨4<w then false
 else if k=3 then decide (b<8)&&decide (o0=0∧o1=0∧o2=0∧o3=0)
 else if k=1∨k=2∨k=4 then decide (b=0)&&sQ w.toNat [o0,o1,o2,o3] 0 0
 else false
set_option maxHeartbeats 16000000 in
theorem PZ{k w b o0 o1 o2 o3:Int}(a0:0≤o0∧o0<256)(a1:0≤o1∧o1<256)(a2:0≤o2∧o2<256)(a3:0≤o3∧o3<256) :
  EvQ Cx 287 [.agg [I8 k,I64 w,I8 o0,I8 o1,I8 o2,I8 o3,I8 b]] (Bo (aLx k w o0 o1 o2 o3 b)):=by
 refine aX aYW rfl (by simp[IT]) ?_
 unfold aLx
 by_cases hw1:w<1
 ·rw[if_pos (.inl hw1)]
  simp(disch:=omega)only[go_sem,simprocAttr]
 by_cases hw4:4<w
 ·rw[if_pos (.inr hw4)]
  simp(disch:=omega)only[go_sem,simprocAttr]
 rw[if_neg (by omega)]
 obtain⟨n,rfl⟩:∃ n:Nat,w=n:=⟨w.toNat,by omega⟩
 have hord:=P3 (k:=k) (b:=b) (w:=n) (by omega) (by omega) a0 a1 a2 a3
 by_cases k3:k=3
 ·subst k3
  rw[if_pos rfl]
  by_cases hb:b<8
  ·by_cases z0:o0=0<;>by_cases z1:o1=0<;>by_cases z2:o2=0<;>by_cases z3:o3=0
   all_goals simp(disch:=omega)only[go_sem,simprocAttr]
   all_goals simp[hb,z0,z1,z2,z3]
  ·simp(disch:=omega)only[go_sem,simprocAttr]
 rw[if_neg k3,Int.toNat_natCast]
 by_cases hk:k=1∨k=2∨k=4
 ·rw[if_pos hk]
  by_cases hb:b=0
  ·subst hb
   rcases hk with rfl|rfl|rfl
   all_goals simp(disch:=omega)only[go_sem,simprocAttr,aD aUo,QK.use hord]
  ·rcases hk with rfl|rfl|rfl
   all_goals simp(disch:=omega)only[go_sem,simprocAttr]
   all_goals simp[hb]
 ·rw[if_neg hk]
  have k1:¬ k=1:=fun e=>hk (.inl e)
  have k2:¬ k=2:=fun e=>hk (.inr (.inl e))
  have k4:¬ k=4:=fun e=>hk (.inr (.inr e))
  simp(disch:=omega)only[go_sem,simprocAttr]
def Rp.good(r:Rp):Bool:=aLx r.kind r.ways r.o0 r.o1 r.o2 r.o3 r.b
theorem QO(r:Rp)(h:r.Ok):EvQ Cx 287 [.agg (cR r)] (Bo r.good):=PZ h.o0 h.o1 h.o2 h.o3
noncomputable def W6(f:FuncId)(r:Rp)(w:Int):Option Rp:=match(pT Cx 300).1 f [.agg (cR r),I64 w]with
 |some (.agg [.v (.int .u8 k),.v (.int .i64 n),.v (.int .u8 a),.v (.int .u8 b),.v (.int .u8 c),.v (.int .u8 d),.v (.int .u8 t)])=>some ⟨k,n,a,b,c,d,t⟩
 |_=>none
theorem QZ{f:FuncId}{r r':Rp}{w:Int}(h:W6 f r w=some r'):EvQ Cx f [.agg (cR r),I64 w] (.agg (cR r')):=by
 unfold W6 at h
 split at h
 ·rename_i k n a b c d t e
  cases h
  exact bI 300 e
 ·cases h
def u8B(n:Int):Bool:=decide (0≤n)&&decide (n<256)
def Rp.okB(r:Rp):Bool:=u8B r.kind&&(u8B r.o0&&(u8B r.o1&&(u8B r.o2&&(u8B r.o3&&u8B r.b))))
noncomputable def aOT(f:FuncId)(r:Rp)(w:Int):Bool:=match W6 f r w with
 |some r'=>r'.okB&&(r'.good&&(decide (r'.kind=r.kind)&&decide (r'.ways=r.ways)))
 |none=>false
noncomputable def eF(f:FuncId)(k w:Nat):Bool :=
 (List.range 4).all fun a=>(List.range 4).all fun b=>(List.range 4).all fun c=>(List.range 4).all fun d=>(List.range 8).all fun t=>(List.range w).all fun i =>
  bif (Rp.mk k w a b c d t).good then aOT f ⟨k,w,a,b,c,d,t⟩ i else true
theorem EH{w:Nat}(w4:w≤4):∀(l:List Int) (p s:Nat),sQ w l p s=true→∀ o∈l,o<4
 |[],_,_,_,o,ho=>by cases ho
 |x::l,p,s,h,o,ho=>by
  unfold sQ at h
  split at h
  ·rw[Bool.and_eq_true,decide_eq_true_eq]at h
   rcases List.mem_cons.1 ho with rfl|ho
   ·omega
   ·exact EH w4 l _ _ h.2 o ho
  ·split at h
   ·cases h
   ·rename_i h2
    rcases List.mem_cons.1 ho with rfl|ho
    ·have:=not_or.1 h2
     omega
    ·exact EH w4 l _ _ h o ho
theorem J7{r:Rp}(h:r.Ok)(g:r.good=true):∃ k n a b c d t:Nat,r=⟨k,n,a,b,c,d,t⟩∧(1≤k∧k≤4)∧(1≤n∧n≤4)∧a<4∧b<4∧c<4∧d<4∧t<8:=by
 obtain⟨k,n,a,b,c,d,t⟩:=r
 obtain⟨h1,h2,h3,h4,h5,h6,-⟩:=h
 simp only at h1 h2 h3 h4 h5 h6
 unfold Rp.good aLx at g
 simp only at g
 split at g
 ·cases g
 rename_i q1
 have hn:1≤n∧n≤4:=by omega
 split at g
 ·rename_i q2
  rw[Bool.and_eq_true,decide_eq_true_eq,decide_eq_true_eq]at g
  refine⟨k.toNat,n.toNat,a.toNat,b.toNat,c.toNat,d.toNat,t.toNat,?_,by omega,by omega,by omega,by omega,by omega,by omega,by omega⟩
  rw[Int.toNat_of_nonneg (by omega),Int.toNat_of_nonneg (by omega),Int.toNat_of_nonneg (by omega),Int.toNat_of_nonneg (by omega),Int.toNat_of_nonneg (by omega),Int.toNat_of_nonneg (by omega),Int.toNat_of_nonneg (by omega)]
 ·split at g
  ·rename_i q3
   rw[Bool.and_eq_true,decide_eq_true_eq]at g
   have hl:=EH (w:=n.toNat) (by omega) _ _ _ g.2
   have la:=hl a (by simp)
   have lb:=hl b (by simp)
   have lc:=hl c (by simp)
   have ld:=hl d (by simp)
   refine⟨k.toNat,n.toNat,a.toNat,b.toNat,c.toNat,d.toNat,t.toNat,?_,by omega,by omega,by omega,by omega,by omega,by omega,by omega⟩
   rw[Int.toNat_of_nonneg (by omega),Int.toNat_of_nonneg (by omega),Int.toNat_of_nonneg (by omega),Int.toNat_of_nonneg (by omega),Int.toNat_of_nonneg (by omega),Int.toNat_of_nonneg (by omega),Int.toNat_of_nonneg (by omega)]
  ·cases g
theorem qN{n:Int}(h:u8B n=true):0≤n∧n<256:=by
 unfold u8B at h
 rw[Bool.and_eq_true,decide_eq_true_eq,decide_eq_true_eq]at h
 exact h
theorem yB{f:FuncId}(tab:∀ k w:Nat,1≤k∧k≤4→1≤w∧w≤4→eF f k w=true){r:Rp}(h:r.Ok)(g:r.good=true){i:Int}(i0:0≤i)(i1:i<r.ways) :
  ∃ r',W6 f r i=some r'∧r'.Ok∧r'.good=true∧r'.kind=r.kind∧r'.ways=r.ways:=by
 obtain⟨k,n,a,b,c,d,t,rfl,hk,hn,ha,hb,hc,hd,ht⟩:=J7 h g
 simp only at i1
 have q:=tab k n hk hn
 unfold eF at q
 have q:=List.all_eq_true.1 q a (List.mem_range.2 ha)
 have q:=List.all_eq_true.1 q b (List.mem_range.2 hb)
 have q:=List.all_eq_true.1 q c (List.mem_range.2 hc)
 have q:=List.all_eq_true.1 q d (List.mem_range.2 hd)
 have q:=List.all_eq_true.1 q t (List.mem_range.2 ht)
 have q:=List.all_eq_true.1 q i.toNat (List.mem_range.2 (by omega))
 rw[g,cond_true,Int.toNat_of_nonneg i0]at q
 unfold aOT at q
 split at q
 ·rename_i r' e
  rw[Bool.and_eq_true,Bool.and_eq_true,Bool.and_eq_true,decide_eq_true_eq,decide_eq_true_eq]at q
  obtain⟨q1,q2,q3,q4⟩:=q
  unfold Rp.okB at q1
  simp only[Bool.and_eq_true]at q1
  obtain⟨p1,p2,p3,p4,p5,p6⟩:=q1
  have hw:=h.ways
  simp only at hw q3 q4
  refine⟨r',e,⟨qN p1,qN p2,qN p3,qN p4,qN p5,qN p6,by rw[q4];exact hw⟩,q2,q3,q4⟩
 ·cases q
theorem TE{n:Nat}(h:n<18446744073709551616):IntKind.u64.wrap (n:Int)=n:=JM (by omega) (by omega)
theorem AQ{a b:Nat}(ha:a<18446744073709551616)(hb:b<18446744073709551616):IntKind.u64.wrap ((BitVec.ofInt IntKind.u64.bits (a:Int) &&& BitVec.ofInt IntKind.u64.bits (b:Int)).toNat:Int)=((a &&& b:Nat):Int):=by
 rw[BitVec.ofInt_natCast,BitVec.ofInt_natCast,BitVec.toNat_and,BitVec.toNat_ofNat,BitVec.toNat_ofNat,show IntKind.u64.bits=64 from rfl,Nat.mod_eq_of_lt (by omega),Nat.mod_eq_of_lt (by omega)]
 exact TE (Nat.lt_of_le_of_lt Nat.and_le_left ha)
theorem yC{a b:Nat}(ha:a<18446744073709551616)(hb:b<18446744073709551616):a ||| b<18446744073709551616:=Nat.or_lt_two_pow (n:=64) ha hb
theorem xG{a b:Nat}(ha:a<18446744073709551616)(hb:b<18446744073709551616):IntKind.u64.wrap ((BitVec.ofInt IntKind.u64.bits (a:Int) ||| BitVec.ofInt IntKind.u64.bits (b:Int)).toNat:Int)=((a ||| b:Nat):Int):=by
 rw[BitVec.ofInt_natCast,BitVec.ofInt_natCast,BitVec.toNat_or,BitVec.toNat_ofNat,BitVec.toNat_ofNat,show IntKind.u64.bits=64 from rfl,Nat.mod_eq_of_lt (by omega),Nat.mod_eq_of_lt (by omega)]
 exact TE (yC ha hb)
abbrev eV(k:Int)(m:Nat)(a:Bool):A:=.agg [I8 k,W64 m,Bo a]
attribute [go_sem] eV
def aJp(r:Nat):Nat:=if r=0 then 0 else if r=1 then 3 else if r=2 then 12 else 15
def aBU(k:Int)(m:Nat)(a:Bool)(n:Nat):Nat:=if k=1∨k=2∨k=3 then(if a then 2 ^ n-1 else if k=3 then aJp (m &&& 3) &&& (2 ^ n-1)else m &&& (2 ^ n-1))else 0
theorem aAC(k:Int):EvQ Cx 149 [I8 k] (Bo (decide (k=1∨k=2∨k=3))):=by
 refine aX aYs rfl (by simp[J3]) ?_
 by_cases h1:k=1
 ·rw[decide_eq_true (.inl h1)]
  simp(disch:=omega)only[go_sem,simprocAttr]
 by_cases h2:k=2
 ·rw[decide_eq_true (.inr (.inl h2))]
  simp(disch:=omega)only[go_sem,simprocAttr]
 by_cases h3:k=3
 ·rw[decide_eq_true (.inr (.inr h3))]
  simp(disch:=omega)only[go_sem,simprocAttr]
 rw[decide_eq_false (by omega)]
 simp(disch:=omega)only[go_sem,simprocAttr]
theorem SH{n:Nat}(h0:1≤n)(h:n≤4):EvQ Cx 150 [I64 n] (Bo true):=by
 refine aX aVy rfl (by simp[I1]) ?_
 simp(disch:=omega)only[go_sem,simprocAttr]
theorem aCC{n:Nat}(h:n≤4):EvQ Cx 348 [I64 n] (W64 (2 ^ n-1:Nat)):=by
 obtain rfl|rfl|rfl|rfl|rfl:n=0∨n=1∨n=2∨n=3∨n=4:=by omega
 all_goals exact bI 60 (by kernel_rfl)
theorem tz1:EvQ Cx 346 [W64 1] (I64 0):=bI 60 (by kernel_rfl)
theorem tz2:EvQ Cx 346 [W64 2] (I64 1):=bI 60 (by kernel_rfl)
theorem tz3:EvQ Cx 346 [W64 3] (I64 0):=bI 60 (by kernel_rfl)
theorem aAr(m:Nat):∃ n:Int,EvQ Cx 357 [W64 m] (I64 n):=by
 have:∃ r,EvQ Cx 357 [W64 m] r∧∃ n:Int,r=I64 n:=by
  refine cA aUs rfl (by simp[J9]) ?_
  simp(disch:=omega)only[go_sem,simprocAttr]
  exact⟨_,rfl⟩
 obtain⟨_,h,n,rfl⟩:=this
 exact⟨n,h⟩
theorem aMu{k:Int}{m n:Nat}{a:Bool}(n1:1≤n)(n4:n≤4)(hm:m<18446744073709551616):EvQ Cx 337 [eV k m a,I64 n] (W64 (aBU k m a n)):=by
 have hK:=aAC k
 have hC:=SH n1 n4
 have hB:=aCC n4
 have hB2:EvQ Cx 348 [I64 2] (W64 3):=aCC (n:=2) (by omega)
 refine aX a1z rfl (by simp[HT]) ?_
 unfold aBU
 by_cases h:k=1∨k=2∨k=3
 case neg =>
  rw[if_neg h]
  rw[decide_eq_false h]at hK
  simp(disch:=omega)only[go_sem,simprocAttr,QK.use hK]
 rw[if_pos h]
 rw[decide_eq_true h]at hK
 cases a with
 |true =>
  simp(disch:=omega)only[go_sem,simprocAttr,QK.use hK,QK.use hC,QK.use hB]
 |false =>
  have hp:2 ^ n-1<18446744073709551616:=by
   obtain rfl|rfl|rfl|rfl:n=1∨n=2∨n=3∨n=4:=by omega
   all_goals decide
  have hA:=AQ hm hp
  have h3:=AQ (b:=3) hm (by decide)
  rw[if_neg (by decide)]
  by_cases k3:k=3
  ·rw[if_pos k3]
   have hr:m &&& 3≤3:=Nat.and_le_right
   simp(disch:=omega)only[go_sem,simprocAttr]at h3
   generalize m &&& 3=r at h3 hr ⊢
   have hG:=AQ (a:=aJp r) (b:=2 ^ n-1) (by
    unfold aJp
    split
    ·omega
    ·split
     ·omega
     ·split<;>omega) hp
   generalize 2 ^ n-1=al at *
   obtain rfl|rfl|rfl|rfl:r=0∨r=1∨r=2∨r=3:=by omega
   all_goals
    simp(disch:=omega)only[aJp,Nat.reduceEqDiff,Nat.succ_ne_self,Int.cast_ofNat_Int,go_sem,simprocAttr]at h3 hG ⊢
    simp(disch:=omega)only[go_sem,simprocAttr,lM,oI,gP,QK.use hK,QK.use hC,QK.use hB,QK.use hB2,h3,aK aWu aUh]
    rw[aP aZU a2t]
    simp(disch:=omega)only[go_sem,simprocAttr]
    repeat (rw[aA];simp(disch:=omega)only[go_sem,simprocAttr,aW,kO,cX,dC,eU,bP,dK,bX,dM,bS,fK.blk,dY,bN,pending,exOfN,QK.use tz1,QK.use tz2,QK.use tz3,hG])
    all_goals first|exact⟨_,rfl⟩|exact hG|done
  ·rw[if_neg k3]
   simp(disch:=omega)only[go_sem,simprocAttr]at hA
   simp(disch:=omega)only[go_sem,simprocAttr,QK.use hK,QK.use hC,QK.use hB,hA]
end Go.Proofs.YtpdphobnchajbaaGreatDoor.Ev
