/- Geometry: contracts. -/
import Derived.Test.YtfkegfjggibdhaaGreatDoorN14
set_option linter.all false
namespace Go.Proofs.YtfkegfjggibdhaaGreatDoor.Ev
open Go Go.RowKit
set_option maxRecDepth 100000
def OkG(c h o s y:Int):Prop:=1<=c/\c<=4/\1<=h/\h<=2/\1<=o/\o<=4/\1<=s/\s<=4/\1<=y/\y<=4
instance(c h o s y:Int):Decidable (OkG c h o s y):=by unfold OkG;infer_instance
abbrev f7(c h o s y:Int):A:=.agg [I64 c,I64 h,I64 o,I64 s,I64 y]
attribute [go_sem] f7
theorem wrap8(n:Int):IntKind.u8.wrap n=n%256:=by simp[IntKind.wrap,IntKind.bits,IntKind.signed]
section
variable{c h o s y:Int}
set_option maxHeartbeats 4000000
theorem yE(hk:OkG c h o s y){l:Int}(l1:0<=l)(l2:l<=255):EvQ Cx 63 [f7 c h o s y,I8 l] (I8 (l/o)):=by obtain⟨c1,c2,h1,h2,o1,o2,s1,s2,y1,y2⟩:=id hk;have d1:0<=l/o:=fj (by omega) (by omega);have d2:l/o<=255:=Int.le_trans (eh _ l1) l2;refine evF aXw ?_;simp(disch:=omega) [go_sem]
theorem aId(hk:OkG c h o s y){l:Int}(l1:0<=l)(l2:l<=255):EvQ Cx 65 [f7 c h o s y,I8 l] (I8 (l%o)):=by obtain⟨c1,c2,h1,h2,o1,o2,s1,s2,y1,y2⟩:=id hk;refine evF aTC ?_;simp(disch:=omega) [go_sem]
theorem fV(hk:OkG c h o s y):EvQ Cx 41 [f7 c h o s y] (Bo true):=by obtain⟨c1,c2,h1,h2,o1,o2,s1,s2,y1,y2⟩:=id hk;refine evF aIx ?_;simp(disch:=simp) [go_sem];iterate 6 (rw[aA];simp(disch:=omega) [go_sem])
set_option maxHeartbeats 16000000 in theorem VS(hk:¬OkG c h o s y):EvQ Cx 41 [f7 c h o s y] (Bo false):=by refine evF aIx ?_;simp(disch:=omega)only[go_sem,simprocAttr];rw[aA];by_cases k0:1<=c;(case neg=>simp(disch:=omega)only[go_sem,simprocAttr]);by_cases k1:c<=4;(case neg=>simp(disch:=omega)only[go_sem,simprocAttr]);simp(disch:=omega)only[go_sem,simprocAttr];rw[aA];by_cases k2:1<=h;(case neg=>simp(disch:=omega)only[go_sem,simprocAttr]);by_cases k3:h<=2;(case neg=>simp(disch:=omega)only[go_sem,simprocAttr]);simp(disch:=omega)only[go_sem,simprocAttr];rw[aA];by_cases k4:1<=o;(case neg=>simp(disch:=omega)only[go_sem,simprocAttr]);by_cases k5:o<=4;(case neg=>simp(disch:=omega)only[go_sem,simprocAttr]);simp(disch:=omega)only[go_sem,simprocAttr];rw[aA];by_cases k6:1<=s;(case neg=>simp(disch:=omega)only[go_sem,simprocAttr]);by_cases k7:s<=4;(case neg=>simp(disch:=omega)only[go_sem,simprocAttr]);simp(disch:=omega)only[go_sem,simprocAttr];rw[aA];by_cases k8:1<=y;(case neg=>simp(disch:=omega)only[go_sem,simprocAttr]);by_cases k9:y<=4;(case neg=>simp(disch:=omega)only[go_sem,simprocAttr]);exact absurd ⟨k0,k1,k2,k3,k4,k5,k6,k7,k8,k9⟩ hk
theorem aB5(c h o s y:Int):EvQ Cx 41 [f7 c h o s y] (Bo (decide (OkG c h o s y))):=by by_cases hk:OkG c h o s y;{rw[cc hk];exact fV hk};{rw[ba hk];exact VS hk}
theorem gU(hk:OkG c h o s y):EvQ Cx 43 [f7 c h o s y] (.tup [f7 c h o s y,Bo true]):=by have hR:=fV hk;refine evF aUN ?_;simp(disch:=simp) [go_sem,QK.use hR]
theorem sZ(hk:OkG c h o s y):EvQ Cx 32 [f7 c h o s y] (I64 (5/o+1)):=by have hV:=gU hk;have hL:=yE hk (l:=5) (by simp) (by simp);obtain⟨c1,c2,h1,h2,o1,o2,s1,s2,y1,y2⟩:=id hk;have d1:0<=5/o:=fj (by simp) (by omega);have d2:5/o<=5:=eh _ (by simp);refine evF aVp ?_;simp(disch:=omega) [go_sem,QK.use hV,QK.use hL]
theorem IQ(hk:OkG c h o s y){l:Int}(l1:0<=l)(l2:l<=255):EvQ Cx 140 [f7 c h o s y,I8 l] (I8 (l/o)):=by have hV:=gU hk;have hL:=yE hk l1 l2;refine evF aSX ?_;simp(disch:=simp) [go_sem,QK.use hV,QK.use hL]
theorem aYQ(hk:OkG c h o s y){l:Int}(l1:0<=l)(l2:l<=255):EvQ Cx 133 [f7 c h o s y,I8 l] (I8 (l%s)):=by have hV:=gU hk;obtain⟨c1,c2,h1,h2,o1,o2,s1,s2,y1,y2⟩:=id hk;refine evF aPP ?_;simp(disch:=omega) [go_sem,QK.use hV]
theorem AL(hk:OkG c h o s y){l:Int}(l1:0<=l)(l2:l<=255):EvQ Cx 229 [f7 c h o s y,I8 l] (I8 (c+l%h)):=by have hV:=gU hk;obtain⟨c1,c2,h1,h2,o1,o2,s1,s2,y1,y2⟩:=id hk;have d1:=cu l (show h≠0 by omega);have d2:=bu l (show 0<h by omega);refine evF aLd ?_;simp(disch:=omega) [go_sem,QK.use hV]
theorem JK(hk:OkG c h o s y){n:Int}(n1:0<=n)(n2:n<=255):EvQ Cx 124 [f7 c h o s y,I8 n] (Bo (decide (n<c))):=by have hV:=gU hk;obtain⟨c1,c2,h1,h2,o1,o2,s1,s2,y1,y2⟩:=id hk;refine evF aNg ?_;by_cases h1:n<c;{simp(disch:=omega) [go_sem,simprocAttr,QK.use hV,aG IS rfl,aG JQ rfl]};{simp(disch:=omega) [go_sem,simprocAttr,QK.use hV,aG IS rfl,aG JQ rfl]}
theorem aHG(hk:OkG c h o s y){n:Int}(n1:0<=n)(n2:n<=255):EvQ Cx 17 [f7 c h o s y,I8 n] (Bo (decide (c<=n/\n<c+h))):=by have hV:=gU hk;obtain⟨c1,c2,h1,h2,o1,o2,s1,s2,y1,y2⟩:=id hk;refine evF aUM ?_;by_cases h1:c<=n;{by_cases h2:n<c+h;{rw[cc ⟨h1,h2⟩];simp(disch:=omega)only[go_sem,simprocAttr,QK.use hV,aG IS rfl,aG JQ rfl]};{rw[ba (fun x=>h2 x.2)];simp(disch:=omega)only[go_sem,simprocAttr,QK.use hV,aG IS rfl,aG JQ rfl]}};{rw[ba (fun x=>h1 x.1)];simp(disch:=omega)only[go_sem,simprocAttr,QK.use hV,aG IS rfl,aG JQ rfl]}
structure D4 where
 a:Int
 b:Int
 c:Int
 d:Int
structure D4.Ok(x:D4):Prop where
 a:0≤x.a∧x.a<256
 b:0≤x.b∧x.b<256
 c:0≤x.c∧x.c<256
 d:0≤x.d∧x.d<256
abbrev cD4(x:D4):List A:=[I8 x.a,I8 x.b,I8 x.c,I8 x.d]
attribute [go_sem] cD4
def D4.at(x:D4)(n:Int):Int:=if n=0 then x.a else if n=1 then x.b else if n=2 then x.c else x.d
def D4.to(x:D4)(n v:Int):D4:=if n=0 then⟨v,x.b,x.c,x.d⟩else if n=1 then⟨x.a,v,x.c,x.d⟩else if n=2 then⟨x.a,x.b,v,x.d⟩else⟨x.a,x.b,x.c,v⟩
theorem D4.Ok.at{x:D4}(k:x.Ok)(n:Int):0<=x.at n/\x.at n<256:=by unfold D4.at;split;{exact k.a};{split;{exact k.b};{split;{exact k.c};{exact k.d}}}
theorem D4.Ok.to{x:D4}(k:x.Ok)(n:Int){v:Int}(hv:0<=v/\v<256):(x.to n v).Ok:=by unfold D4.to;split;{exact⟨hv,k.b,k.c,k.d⟩};{split;{exact⟨k.a,hv,k.c,k.d⟩};{split;{exact⟨k.a,k.b,hv,k.d⟩};{exact⟨k.a,k.b,k.c,hv⟩}}}
theorem aZm(hk:OkG c h o s y)(x:D4){l:Int}(l1:0<=l)(l2:l<=255):EvQ Cx 141 [f7 c h o s y,.agg (cD4 x),I8 l] (I8 (x.at (l%o))):=by have hV:=gU hk;have hW:=aId hk l1 l2;obtain⟨c1,c2,h1,h2,o1,o2,s1,s2,y1,y2⟩:=id hk;have d1:=cu l (show o≠0 by omega);have d2:=bu l (show 0<o by omega);generalize l%o=q at*;refine evF aQr ?_;(have hq:q=0\/q=1\/q=2\/q=3:=by omega);rcases hq with rfl|rfl|rfl|rfl;all_goals simp(disch:=simp) [go_sem,QK.use hV,QK.use hW,D4.at]
theorem aWN(hk:OkG c h o s y)(x:D4){l:Int}(l1:0<=l)(l2:l<=255)(v:Int):EvQ Cx 34 [f7 c h o s y,.agg (cD4 x),I8 l,I8 v] (.agg (cD4 (x.to (l%o) v))):=by have hV:=gU hk;have hW:=aId hk l1 l2;obtain⟨c1,c2,h1,h2,o1,o2,s1,s2,y1,y2⟩:=id hk;have d1:=cu l (show o≠0 by omega);have d2:=bu l (show 0<o by omega);generalize l%o=q at*;refine evF aUU ?_;(have hq:q=0\/q=1\/q=2\/q=3:=by omega);rcases hq with rfl|rfl|rfl|rfl;all_goals simp(disch:=simp) [go_sem,QK.use hV,QK.use hW,D4.to]
end
abbrev J8(n:Int):A:=.v (.int .i8 n)
abbrev W64(n:Int):A:=.v (.int .u64 n)
structure Ln where
 line:Int
 state:Int
 need:Int
 has:Bool
 d:D4
structure Ln.Ok(x:Ln):Prop where
 line:0≤x.line∧x.line<256
 state:0≤x.state∧x.state<256
 need:-128≤x.need∧x.need<128
 d:x.d.Ok
abbrev cL(x:Ln):List A:=[I8 x.line,I8 x.state,J8 x.need,Bo x.has,I8 x.d.a,I8 x.d.b,I8 x.d.c,I8 x.d.d]
attribute [go_sem] cL
structure Rp where
 kind:Int
 ways:Int
 o0:Int
 o1:Int
 o2:Int
 o3:Int
 b:Int
structure Rp.Ok(r:Rp):Prop where
 kind:0≤r.kind∧r.kind<256
 o0:0≤r.o0∧r.o0<256
 o1:0≤r.o1∧r.o1<256
 o2:0≤r.o2∧r.o2<256
 o3:0≤r.o3∧r.o3<256
 b:0≤r.b∧r.b<256
 ways:-9223372036854775808≤r.ways∧r.ways≤9223372036854775807
abbrev cR(r:Rp):List A:=[I8 r.kind,I64 r.ways,I8 r.o0,I8 r.o1,I8 r.o2,I8 r.o3,I8 r.b]
attribute [go_sem] cR
structure Rq where
 kind:Int
 loc:Int
 a:Int
 b:Int
structure Rq.Ok(r:Rq):Prop where
 kind:0≤r.kind∧r.kind<256
 loc:0≤r.loc∧r.loc<256
 a:0≤r.a∧r.a<256
 b:0≤r.b∧r.b<256
abbrev cO(r:Rq):List A:=[I8 r.kind,I8 r.loc,I8 r.a,I8 r.b]
attribute [go_sem] cO
structure Ca where
 W:Nat→Nat→Ln
 N:Nat→Rp
 op:Rq
structure Ca.Ok(k:Ca):Prop where
 W:∀ s w,s<4→w<4→(k.W s w).Ok
 N:∀ s,s<4→(k.N s).Ok
 op:k.op.Ok
def Ca.setW(k:Ca)(s w:Nat)(x:Ln):Ca:=⟨fun i j=>if i=s/\j=w then x else k.W i j,k.N,k.op⟩
def Ca.setN(k:Ca)(s:Nat)(r:Rp):Ca:=⟨k.W,fun i=>if i=s then r else k.N i,k.op⟩
def Ca.setO(k:Ca)(o:Rq):Ca:=⟨k.W,k.N,o⟩
theorem Ca.Ok.setW{k:Ca}(h:k.Ok){s w:Nat}{x:Ln}(hx:x.Ok):(k.setW s w x).Ok:=⟨fun i j hi hj=>by show(if i=s/\j=w then x else k.W i j).Ok;split;{omega};{exact h.W i j hi hj},h.N,h.op⟩
theorem Ca.Ok.setN{k:Ca}(h:k.Ok){s:Nat}{r:Rp}(hr:r.Ok):(k.setN s r).Ok:=⟨h.W,fun i hi=>by show(if i=s then r else k.N i).Ok;split;{omega};{exact h.N i hi},h.op⟩
theorem Ca.Ok.setO{k:Ca}(h:k.Ok){o:Rq}(ho:o.Ok):(k.setO o).Ok:=⟨h.W,h.N,ho⟩
theorem Ca.setW_N(k:Ca)(s w:Nat)(x:Ln)(i:Nat):(k.setW s w x).N i=k.N i:=rfl
def cC(k:Ca):List A:=cL (k.W 0 0)++(cL (k.W 0 1)++(cL (k.W 0 2)++(cL (k.W 0 3)++(cL (k.W 1 0)++(cL (k.W 1 1)++(cL (k.W 1 2)++(cL (k.W 1 3)++(cL (k.W 2 0)++(cL (k.W 2 1)++(cL (k.W 2 2)++(cL (k.W 2 3)++(cL (k.W 3 0)++(cL (k.W 3 1)++(cL (k.W 3 2)++(cL (k.W 3 3)++(cR (k.N 0)++(cR (k.N 1)++(cR (k.N 2)++(cR (k.N 3)++(cO k.op))))))))))))))))))))
theorem aQ(k:Ca):(cC k).length=160:=rfl
theorem oF(k:Ca):bW (cC k)=true:=rfl
theorem aGl(k:Ca):shut.shutL (cC k)=true:=rfl
theorem aHH(k:Ca):iG.flatL (cC k)=true:=rfl
theorem aTV(k:Ca)(H:aF)(n:Nat):bO (freeze H (n+1)) (cC k)=some (cC k):=by simp[cC,dT,KT,uZ]
theorem qD(k:Ca){s w:Nat}(hs:s<4)(hw:w<4):List.drop (s*32+w*8) (cC k)=cL (k.W s w)++List.drop (s*32+w*8+8) (cC k):=by obtain rfl|rfl|rfl|rfl:s=0\/s=1\/s=2\/s=3:=(by omega)<;>obtain rfl|rfl|rfl|rfl:w=0\/w=1\/w=2\/w=3:=(by omega)<;>rfl
theorem vN(k:Ca){s w:Nat}(hs:s<4)(hw:w<4):List.drop (w*8) (List.drop (s*32) (cC k))=cL (k.W s w)++List.drop (s*32+w*8+8) (cC k):=by rw[List.drop_drop];exact qD k hs hw
theorem FM(k:Ca){s w:Nat}(hs:s<4)(hw:w<4)(x:Ln):List.take (s*32+w*8) (cC k)++cL x++List.drop (s*32+w*8+8) (cC k)=cC (k.setW s w x):=by obtain rfl|rfl|rfl|rfl:s=0\/s=1\/s=2\/s=3:=(by omega)<;>obtain rfl|rfl|rfl|rfl:w=0\/w=1\/w=2\/w=3:=(by omega)<;>rfl
theorem FQ(k:Ca){s:Nat}(hs:s<4):List.drop (128+s*7) (cC k)=cR (k.N s)++List.drop (128+s*7+7) (cC k):=by obtain rfl|rfl|rfl|rfl:s=0\/s=1\/s=2\/s=3:=(by omega)<;>rfl
theorem PO(k:Ca){s:Nat}(hs:s<4)(r:Rp):List.take (128+s*7) (cC k)++cR r++List.drop (128+s*7+7) (cC k)=cC (k.setN s r):=by obtain rfl|rfl|rfl|rfl:s=0\/s=1\/s=2\/s=3:=(by omega)<;>rfl
theorem C0(k:Ca):List.drop 156 (cC k)=cO k.op:=rfl
theorem QV(k:Ca)(o:Rq):List.take 156 (cC k)++cO o=cC (k.setO o):=rfl
attribute [irreducible] cC
structure Mg where
 kind:Int
 src:Int
 dst:Int
 line:Int
 asker:Int
 acks:Int
 alone:Bool
 d:D4
structure Mg.Ok(m:Mg):Prop where
 kind:0≤m.kind∧m.kind<256
 src:0≤m.src∧m.src<256
 dst:0≤m.dst∧m.dst<256
 line:0≤m.line∧m.line<256
 asker:0≤m.asker∧m.asker<256
 acks:0≤m.acks∧m.acks<256
 d:m.d.Ok
abbrev cM(m:Mg):List A:=[I8 m.kind,I8 m.src,I8 m.dst,I8 m.line,I8 m.asker,I8 m.acks,Bo m.alone,I8 m.d.a,I8 m.d.b,I8 m.d.c,I8 m.d.d]
attribute [go_sem] cM
structure Pf where
 core:Int
 op:Rq
 old:Int
 new:Int
structure Pf.Ok(p:Pf):Prop where
 core:0≤p.core∧p.core<256
 op:p.op.Ok
 old:0≤p.old∧p.old<256
 new:0≤p.new∧p.new<256
abbrev cP(p:Pf):List A:=[I8 p.core,I8 p.op.kind,I8 p.op.loc,I8 p.op.a,I8 p.op.b,I8 p.old,I8 p.new]
attribute [go_sem] cP
structure Dr where
 state:Int
 owner:Int
 kind:Int
 mask:Nat
 all:Bool
 wait:Int
 asker:Int
 d:D4
structure Dr.Ok(x:Dr):Prop where
 state:0≤x.state∧x.state<256
 owner:0≤x.owner∧x.owner<256
 kind:0≤x.kind∧x.kind<256
 mask:x.mask<18446744073709551616
 wait:0≤x.wait∧x.wait<256
 asker:0≤x.asker∧x.asker<256
 d:x.d.Ok
abbrev cD(x:Dr):List A:=[I8 x.state,I8 x.owner,I8 x.kind,W64 x.mask,Bo x.all,I8 x.wait,I8 x.asker,I8 x.d.a,I8 x.d.b,I8 x.d.c,I8 x.d.d]
attribute [go_sem] cD
structure Bs where
 loc:Int
 val:Int
structure Bs.Ok(x:Bs):Prop where
 loc:0≤x.loc∧x.loc<256
 val:0≤x.val∧x.val<256
def cells{α:Type}(c:α->List A):List α->List A|[]=>[]|x::l=>c x++cells c l
theorem eA{α:Type}(c:α->List A):∀a b,cells c (a++b)=cells c a++cells c b|[],b=>rfl|x::a,b=>by simp[cells,eA c a b]
def s9(w:Nat):List Int->Nat->Nat->Bool|[],_,_=>true|o::l,p,s=>if w<=p then decide (o=0)&&s9 w l (p+1) s else if(w:Int)<=o\/s.testBit o.toNat=true then false else s9 w l (p+1) (s|||2^o.toNat)
theorem P4:∀o,o<4->IntKind.u64.wrap (1*2^(min o IntKind.u64.bits))=((2^o:Nat)):=by decide+kernel
theorem aGk:∀s:Nat,s<16->∀o,o<4->(IntKind.u64.wrap (BitVec.ofInt IntKind.u64.bits (s)&&&BitVec.ofInt IntKind.u64.bits (2^o:Nat)).toNat !=0)=s.testBit o:=by decide+kernel
theorem YB:∀s:Nat,s<16->∀o,o<4->IntKind.u64.wrap ((BitVec.ofInt IntKind.u64.bits s|||BitVec.ofInt IntKind.u64.bits ((2^o:Nat))).toNat)=((s|||2^o:Nat)):=by decide+kernel
theorem YC:∀s,s<16->∀o,o<4->s|||2^o<16:=by decide+kernel
set_option maxHeartbeats 8000000 in theorem rN{k b o0 o1 o2 o3 o:Int}{w:Nat}(w1:1<=w)(w4:w<=4){KK:List It}{Q:Ex->Ev.St->Prop}{p s:Nat}(hp:p<4)(hs:s<16)(hix:([I8 o0,I8 o1,I8 o2,I8 o3]:List A)[p]?=some (I8 o))(b0:0<=o)(b1:o<256){l:List Int}(hF':s9 w (o::l) p s=false->cA Cx .back KK ⟨[(2,Bo false)],[some ⟨85,[I8 k,I64 w,I8 o0,I8 o1,I8 o2,I8 o3,I8 b],true⟩]⟩ Q) (hT:∀s',s'<16->s9 w (o::l) p s=s9 w l (p+1) s'->aY Cx (.code (.loop F5)::KK) ⟨[(1,.ptr 0 0),(3,W64 s'),(7,.agg [I8 o0,I8 o1,I8 o2,I8 o3]),(8,I64 ((p:Int)+1))],[some ⟨85,[I8 k,I64 w,I8 o0,I8 o1,I8 o2,I8 o3,I8 b],true⟩]⟩ Q):aY Cx (.code (.loop F5)::KK) ⟨[(1,.ptr 0 0),(3,W64 s),(7,.agg [I8 o0,I8 o1,I8 o2,I8 o3]),(8,I64 p)],[some ⟨85,[I8 k,I64 w,I8 o0,I8 o1,I8 o2,I8 o3,I8 b],true⟩]⟩ Q:=by have hp':p+1<=4:=hp;rw[aA];by_cases hwp:w<=p;{by_cases h0:o=0;{have:=hT s hs (by simp[s9,hwp,h0]);subst h0;simp(disch:=omega)only[hix,hp',bh,go_sem,simprocAttr];rw[aB (l:=[1,3,7,8]) rfl];simp(disch:=omega)only[go_sem,simprocAttr];omega};{have:=hF' (by simp[s9,hwp,h0]);simp(disch:=omega)only[hix,hp',bh,go_sem,simprocAttr];omega}};{by_cases hwo:(w:Int)<=o;{have:=hF' (by simp[s9,hwp,hwo]);simp(disch:=omega)only[hix,hp',bh,go_sem,simprocAttr];omega};{obtain⟨n,rfl⟩:∃n:Nat,o=n:=⟨o.toNat,by omega⟩;(have hn:n<4:=by omega);have hshl:=P4 n hn;have hand:=aGk s hs n hn;have hor:=YB s hs n hn;simp(disch:=omega)only[go_sem,simprocAttr]at hshl hand hor;cases ht:s.testBit n with|true=>have:=hF' (by simp[s9,hwp,ht]);rw[ht]at hand;simp(disch:=omega)only[hix,hp',bh,hshl,hand,go_sem,simprocAttr];omega|false=>have:=hT (s|||2^n) (YC s hs n hn) (by simp[s9,hwp,hwo,ht]);rw[ht]at hand;simp(disch:=omega)only[hix,hp',bh,hshl,hand,hor,go_sem,simprocAttr];rw[aB (l:=[1,3,7,8]) rfl];simp(disch:=omega)only[go_sem,simprocAttr];exact this}}
set_option maxHeartbeats 8000000 in theorem O8{k b o0 o1 o2 o3:Int}{w:Nat}(w1:1<=w)(w4:w<=4)(a0:0<=o0/\o0<256)(a1:0<=o1/\o1<256)(a2:0<=o2/\o2<256)(a3:0<=o3/\o3<256):EvQ Cx 304 [.agg [I8 k,I64 w,I8 o0,I8 o1,I8 o2,I8 o3,I8 b]] (Bo (s9 w [o0,o1,o2,o3] 0 0)):=by refine evF aOt ?_;simp(disch:=simp)only[go_sem,simprocAttr];rw[aB (l:=[1,3,7,8]) rfl];simp(disch:=simp)only[go_sem,simprocAttr];refine rN w1 w4 (p:=0) (s:=0) (l:=[o1,o2,o3]) (by simp) (by simp) rfl a0.1 a0.2 (fun h=>?_) (fun s1 g1 e1=>?_);{rw[h];simp(disch:=simp)only[go_sem,simprocAttr]};rw[e1];refine rN w1 w4 (p:=1) (s:=s1) (l:=[o2,o3]) (by simp) g1 rfl a1.1 a1.2 (fun h=>?_) (fun s2 g2 e2=>?_);{rw[h];simp(disch:=simp)only[go_sem,simprocAttr]};rw[e2];refine rN w1 w4 (p:=2) (l:=[o3]) (by simp) g2 rfl a2.1 a2.2 (fun h=>?_) (fun s3 g3 e3=>?_);{rw[h];simp(disch:=simp) [go_sem]};rw[e3];refine rN w1 w4 (l:=[]) (by simp) g3 rfl a3.1 a3.2 (fun h=>?_) (fun s4 g4 e4=>?_);{rw[h];simp(disch:=simp) [go_sem]};rw[e4];rw[aA];simp(disch:=simp) [go_sem];rfl
def aAr(k w o0 o1 o2 o3 b:Int):Bool:=if w<1\/4<w then false else if k=3 then decide (b<8)&&decide (o0=0/\o1=0/\o2=0/\o3=0)else if k=1\/k=2\/k=4 then decide (b=0)&&s9 w.toNat [o0,o1,o2,o3] 0 0 else false
set_option maxHeartbeats 16000000 in theorem NS{k w b o0 o1 o2 o3:Int}(a0:0<=o0/\o0<256)(a1:0<=o1/\o1<256)(a2:0<=o2/\o2<256)(a3:0<=o3/\o3<256):EvQ Cx 274 [.agg [I8 k,I64 w,I8 o0,I8 o1,I8 o2,I8 o3,I8 b]] (Bo (aAr k w o0 o1 o2 o3 b)):=by refine evF aJH ?_;unfold aAr;by_cases hw1:w<1;{rw[if_pos (.inl hw1)];simp(disch:=omega)only[go_sem,simprocAttr]};by_cases hw4:4<w;{rw[if_pos (.inr hw4)];simp(disch:=omega)only[go_sem,simprocAttr]};rw[if_neg (by omega)];obtain⟨n,rfl⟩:∃n:Nat,w=n:=⟨w.toNat,by omega⟩;have hord:=O8 (k:=k) (b:=b) (w:=n) (by omega) (by omega) a0 a1 a2 a3;by_cases k3:k=3;{subst k3;rw[if_pos rfl];by_cases hb:b<8;{by_cases z0:o0=0<;>by_cases z1:o1=0<;>by_cases z2:o2=0<;>by_cases z3:o3=0;(all_goals simp(disch:=omega)only[go_sem,simprocAttr]);all_goals simp[hb,z0,z1,z2,z3]};{simp(disch:=omega)only[go_sem,simprocAttr]}};rw[if_neg k3,az];by_cases hk:k=1\/k=2\/k=4;{rw[if_pos hk];by_cases hb:b=0;{subst hb;rcases hk with rfl|rfl|rfl;all_goals simp(disch:=omega)only[go_sem,simprocAttr,QK.use hord]};{rcases hk with rfl|rfl|rfl;(all_goals simp(disch:=omega)only[go_sem,simprocAttr]);all_goals simp[hb]}};{rw[if_neg hk];have k1:¬k=1:=fun e=>hk (.inl e);have k2:¬k=2:=fun e=>hk (.inr (.inl e));have k4:¬k=4:=fun e=>hk (.inr (.inr e));simp(disch:=omega)only[go_sem,simprocAttr]}
def Rp.good(r:Rp):Bool:=aAr r.kind r.ways r.o0 r.o1 r.o2 r.o3 r.b
theorem E2(r:Rp)(h:r.Ok):EvQ Cx 274 [.agg (cR r)] (Bo r.good):=NS h.o0 h.o1 h.o2 h.o3
noncomputable def TF(f:FuncId)(r:Rp)(w:Int):Option Rp:=match(mI Cx 300).1 f [.agg (cR r),I64 w]with|some (.agg [.v (.int .u8 k),.v (.int .i64 n),.v (.int .u8 a),.v (.int .u8 b),.v (.int .u8 c),.v (.int .u8 d),.v (.int .u8 t)])=>some ⟨k,n,a,b,c,d,t⟩|_=>none
theorem PM{f:FuncId}{r r':Rp}{w:Int}(h:TF f r w=some r'):EvQ Cx f [.agg (cR r),I64 w] (.agg (cR r')):=by unfold TF at h;split at h;{rename_i k n a b c d t e;cases h;exact aT 300 e};simp_all
def u8B(n:Int):Bool:=decide (0<=n)&&decide (n<256)
def Rp.okB(r:Rp):Bool:=u8B r.kind&&(u8B r.o0&&(u8B r.o1&&(u8B r.o2&&(u8B r.o3&&u8B r.b))))
noncomputable def aHU(f:FuncId)(r:Rp)(w:Int):Bool:=match TF f r w with|some r'=>r'.okB&&(r'.good&&(decide (r'.kind=r.kind)&&decide (r'.ways=r.ways)))|none=>false
noncomputable def eN(f:FuncId)(k w:Nat):Bool:=(List.range 4).all fun a=>(List.range 4).all fun b=>(List.range 4).all fun c=>(List.range 4).all fun d=>(List.range 8).all fun t=>(List.range w).all fun i=>bif (Rp.mk k w a b c d t).good then aHU f ⟨k,w,a,b,c,d,t⟩ i else true
theorem EP{w:Nat}(w4:w<=4):∀(l:List Int) (p s:Nat),s9 w l p s=true->∀o∈l,o<4|[],_,_,_,o,ho=>by cases ho|x::l,p,s,h,o,ho=>by unfold s9 at h;split at h;{rw[aq,dc]at h;rcases jl.1 ho with rfl|ho;{omega};{exact EP w4 l _ _ h.2 o ho}};{split at h;{cases h};{rcases jl.1 ho with rfl|ho;{omega};{exact EP w4 l _ _ h o ho}}}
theorem A8{r:Rp}(h:r.Ok)(g:r.good=true):∃k n a b c d t:Nat,r=⟨k,n,a,b,c,d,t⟩/\(1<=k/\k<=4)/\(1<=n/\n<=4)/\a<4/\b<4/\c<4/\d<4/\t<8:=by obtain⟨k,n,a,b,c,d,t⟩:=r;obtain⟨h1,h2,h3,h4,h5,h6,-⟩:=h;simp only at h1 h2 h3 h4 h5 h6;unfold Rp.good aAr at g;simp only at g;split at g;{cases g};rename_i q1;(have hn:1<=n/\n<=4:=by omega);split at g;{rename_i q2;rw[aq,dc,dc]at g;refine⟨k.toNat,n.toNat,a.toNat,b.toNat,c.toNat,d.toNat,t.toNat,?_,by omega,by omega,by omega,by omega,by omega,by omega,by omega⟩;rw[bw (by omega),bw (by omega),bw (by omega),bw (by omega),bw (by omega),bw (by omega),bw (by omega)]};{split at g;{rename_i q3;rw[aq,dc]at g;have hl:=EP (w:=n.toNat) (by omega) _ _ _ g.2;have la:=hl a (by simp);have lb:=hl b (by simp);have lc:=hl c (by simp);have ld:=hl d (by simp);refine⟨k.toNat,n.toNat,a.toNat,b.toNat,c.toNat,d.toNat,t.toNat,?_,by omega,by omega,by omega,by omega,by omega,by omega,by omega⟩;rw[bw (by omega),bw (by omega),bw (by omega),bw (by omega),bw (by omega),bw (by omega),bw (by omega)]};simp_all}
theorem rO{n:Int}(h:u8B n=true):0<=n/\n<256:=by unfold u8B at h;simp_all
theorem nK{f:FuncId}(tab:∀k w:Nat,1<=k/\k<=4->1<=w/\w<=4->eN f k w=true){r:Rp}(h:r.Ok)(g:r.good=true){i:Int}(i0:0<=i)(i1:i<r.ways):∃r',TF f r i=some r'/\r'.Ok/\r'.good=true/\r'.kind=r.kind/\r'.ways=r.ways:=by obtain⟨k,n,a,b,c,d,t,rfl,hk,hn,ha,hb,hc,hd,ht⟩:=A8 h g;simp at i1;have q:=tab k n hk hn;have q:=bg.1 q a (dq.2 ha);have q:=bg.1 q b (dq.2 hb);have q:=bg.1 q c (dq.2 hc);have q:=bg.1 q d (dq.2 hd);have q:=bg.1 q t (dq.2 ht);have q:=bg.1 q i.toNat (dq.2 (by omega));rw[g,bq,bw i0]at q;unfold aHU at q;split at q;{rename_i r' e;rw[aq,aq,aq,dc,dc]at q;obtain⟨q1,q2,q3,q4⟩:=q;unfold Rp.okB at q1;simp at q1;obtain⟨p1,p2,p3,p4,p5,p6⟩:=q1;have hw:=h.ways;refine⟨r',e,⟨rO p1,rO p2,rO p3,rO p4,rO p5,rO p6,by omega⟩,q2,q3,q4⟩};simp_all
end Go.Proofs.YtfkegfjggibdhaaGreatDoor.Ev
namespace Go.Proofs.YtfkegfjggibdhaaGreatDoor.Pl
structure Ins where
 op:Int
 dst:Int
 loc:Int
 ra:Bool
 na:Int
 rb:Bool
 nb:Int
 fn:Int
 mode:Int
 skip:Int
structure Core where
 pc:Int
 g:Nat→Int
 buf:List (Int×Int)
 waits:Bool
 drain:Bool
def u8(n:Int):Prop:=0<=n/\n<=255
structure Ins.Ok(x:Ins):Prop where
 op:u8 x.op
 dst:u8 x.dst
 loc:u8 x.loc
 na:u8 x.na
 nb:u8 x.nb
 fn:u8 x.fn
 mode:u8 x.mode
 skip:u8 x.skip
structure Core.Ok(c:Core):Prop where
 pc:u8 c.pc
 g:∀ i,u8 (c.g i)
 buf:∀ p∈c.buf,u8 p.1∧u8 p.2
def value(g:Nat->Int)(r:Bool)(n:Int):Int:=if r then(if n<8 then g n.toNat else 0)else n
def mov(fn a b:Int):Int:=if fn=1 then Go.IntKind.u8.wrap (a+b)else if fn=2 then Go.IntKind.u8.wrap (a-b)else if fn=3 then Go.IntKind.u8.wrap (BitVec.ofInt Go.IntKind.u8.bits a^^^BitVec.ofInt Go.IntKind.u8.bits b).toNat else 0
def tst(fn a b:Int):Bool:=if fn=4 then a==b else if fn=5 then a !=b else if fn=6 then decide (a<b)else false
def young(loc:Int):List (Int×Int)->Option Int|[]=>none|p::l=>match young loc l with|some v=>some v|none=>if p.1=loc then some p.2 else none
def free(c:Core)(s:Int)(is:Bool):Int:=if is&&!c.waits then s else 4
def next(l:List Ins)(b:Int)(c:Core):Int:=match l[c.pc.toNat]? with|none=>free c 1 c.buf.isEmpty|some x=>if x.op=3\/x.op=8 then free c 2 true else if x.op=7 then free c 2 (c.buf.isEmpty||x.mode !=3)else if x.op=2 then(if b>0 then free c 2 (decide ((c.buf.length:Int)<b))else free c 3 (!c.drain))else if x.op=1 then(match young x.loc c.buf with|some _=>free c 2 true|none=>free c 3 (!c.drain))else if x.op=4\/x.op=5\/x.op=6 then free c 3 (c.buf.isEmpty&&!c.drain)else 4
structure Op where
 kind:Int
 loc:Int
 a:Int
 b:Int
def ask(l:List Ins)(c:Core):Op:=match l[c.pc.toNat]? with|none=>⟨0,0,0,0⟩|some x=>if x.op=1 then⟨x.op,x.loc,0,0⟩else if x.op=2\/x.op=4\/x.op=5 then⟨x.op,x.loc,value c.g x.ra x.na,0⟩else if x.op=6 then⟨x.op,x.loc,value c.g x.ra x.na,value c.g x.rb x.nb⟩else⟨0,0,0,0⟩
def set(g:Nat->Int)(d v:Int):Nat->Int:=fun i=>if d<8/\i=d.toNat then v else g i
def on(l:List Ins)(pc n:Int):Int:=min (min (pc+n) l.length) 255
def loc1(x:Ins)(l:List Ins)(c:Core):Core:=if x.op=3 then{c with g:=set c.g x.dst (mov x.fn (value c.g x.ra x.na) (value c.g x.rb x.nb)),pc:=on l c.pc 1}else if x.op=8 then{c with pc:=on l c.pc (if tst x.fn (value c.g x.ra x.na) (value c.g x.rb x.nb)then 1+x.skip else 1)}else if x.op=7 then{c with pc:=on l c.pc 1}else if x.op=2 then{c with buf:=c.buf++[(x.loc,value c.g x.ra x.na)],pc:=on l c.pc 1}else if x.op=1 then{c with g:=(match young x.loc c.buf with|some v=>set c.g x.dst v|none=>c.g),pc:=on l c.pc 1}else c
def loc(l:List Ins)(b:Int)(c:Core):Core:=if next l b c=2 then match l[c.pc.toNat]? with|some x=>loc1 x l c|none=>c else c
def drains(c:Core):Option (Int×Int):=if c.waits||c.drain then none else c.buf.head?
def back(l:List Ins)(c:Core)(old:Int):Core:=if c.drain then{c with buf:=c.buf.drop 1,drain:=false}else if c.waits then{c with waits:=false,pc:=on l c.pc 1,g:=match l[c.pc.toNat]? with|some x=>if x.op=2 then c.g else set c.g x.dst old|none=>c.g}else c
end Go.Proofs.YtfkegfjggibdhaaGreatDoor.Pl
namespace Go.Proofs.YtfkegfjggibdhaaGreatDoor.Ev
open Go Go.RowKit
set_option maxRecDepth 100000
abbrev LP(r:Bool)(n:Int):A:=.agg [Bo r,I8 n]
set_option maxHeartbeats 4000000 in theorem aFJ(fn a b:Int):EvQ Cx 221 [I8 fn,I8 a,I8 b] (I8 (Pl.mov fn a b)):=by refine evF aOf ?_;unfold Pl.mov;by_cases k1:fn=1;(case pos=>simp(disch:=simp) [k1,go_sem]);by_cases k2:fn=2;(case pos=>simp(disch:=simp) [k2,go_sem]);by_cases k3:fn=3;(case pos=>simp(disch:=simp) [k3,go_sem]);simp(disch:=omega) [go_sem]
set_option maxHeartbeats 4000000 in theorem aHP(fn a b:Int):EvQ Cx 222 [I8 fn,I8 a,I8 b] (Bo (Pl.tst fn a b)):=by refine evF aI7 ?_;unfold Pl.tst;by_cases k1:fn=4;(case pos=>simp(disch:=simp) [k1,go_sem]);by_cases k2:fn=5;(case pos=>simp(disch:=simp) [k2,go_sem]);by_cases k3:fn=6;(case pos=>simp(disch:=simp) [k3,go_sem]);simp(disch:=omega) [go_sem]
abbrev nE(pc:Int)(g:Nat->Int)(bf:A)(w d:Bool):A:=.agg [I8 pc,I8 (g 0),I8 (g 1),I8 (g 2),I8 (g 3),I8 (g 4),I8 (g 5),I8 (g 6),I8 (g 7),bf,Bo w,Bo d]
theorem BE{n:Int}(h:0<=n)(h':n<8):n=0\/n=1\/n=2\/n=3\/n=4\/n=5\/n=6\/n=7:=by omega
set_option maxHeartbeats 4000000 in theorem ZN(pc:Int)(g:Nat->Int)(bf:A)(hb:one bf=true)(w d r:Bool)(n:Int)(n1:0<=n)(n2:n<=255):EvQ Cx 186 [nE pc g bf w d,LP r n] (I8 (Pl.value g r n)):=by refine evF aOS ?_;unfold one at hb;cases r;(case false=>simp(disch:=simp)only[Pl.value,hb,go_sem,simprocAttr]);by_cases k:n<8;(case pos=>obtain h|h|h|h|h|h|h|h:=BE n1 k;all_goals subst h;simp(disch:=simp)only[Pl.value,hb,go_sem,simprocAttr]);simp(disch:=simp) [Pl.value,k,hb,go_sem]
section
variable{bb:Bool}{dst:Option Nat}{j:Nat}{ms:List MOp}{st:Ev.St}{k:List It}{Q:Ex->Ev.St->Prop}
theorem H9{fn a b:Int}:QK Cx 221 [I8 fn,I8 a,I8 b] bb dst j ms st k Q↔((bb||iG (I8 (Pl.mov fn a b)))=true/\gJ Cx j ms ⟨put st.env dst (I8 (Pl.mov fn a b)),st.H⟩ k Q):=QK.use (aFJ fn a b)
theorem HV{fn a b:Int}:QK Cx 222 [I8 fn,I8 a,I8 b] bb dst j ms st k Q↔((bb||iG (Bo (Pl.tst fn a b)))=true/\gJ Cx j ms ⟨put st.env dst (Bo (Pl.tst fn a b)),st.H⟩ k Q):=QK.use (aHP fn a b)
theorem TU{pc:Int}{r0 r1 r2 r3 r4 r5 r6 r7:Int}{bf:A}(hb:one bf=true){w d r:Bool}{n:Int}(n1:0<=n)(n2:n<=255):QK Cx 186 [.agg [I8 pc,I8 r0,I8 r1,I8 r2,I8 r3,I8 r4,I8 r5,I8 r6,I8 r7,bf,Bo w,Bo d],.agg [Bo r,I8 n]] bb dst j ms st k Q↔((bb||iG (I8 (Pl.value (fun i=>[r0,r1,r2,r3,r4,r5,r6,r7].getD i 0) r n)))=true/\gJ Cx j ms ⟨put st.env dst (I8 (Pl.value (fun i=>[r0,r1,r2,r3,r4,r5,r6,r7].getD i 0) r n)),st.H⟩ k Q):=QK.use (ZN pc (fun i=>[r0,r1,r2,r3,r4,r5,r6,r7].getD i 0) bf hb w d r n n1 n2)
end
def qG(x:Pl.Ins):List A:=[I8 x.op,I8 x.dst,I8 x.loc,Bo x.ra,I8 x.na,Bo x.rb,I8 x.nb,I8 x.fn,I8 x.mode,I8 x.skip]
def A7(l:List Pl.Ins):List A:=l.flatMap qG
def dX(l:List (Int×Int)):List A:=l.flatMap fun p=>[I8 p.1,I8 p.2]
abbrev fP(l:List Pl.Ins):A:=.sl l.length (A7 l)
abbrev iC(l:List (Int×Int)):A:=.sl l.length (dX l)
theorem cH(l:List (Int×Int)):(dX l).length=l.length*2:=by induction l with|nil=>rfl|cons p l ih=>unfold dX at ih⊢;grind
theorem XX(l:List Pl.Ins):(A7 l).length=l.length*10:=by induction l with|nil=>rfl|cons p l ih=>unfold A7 at ih⊢;simp only[oe,am,ce,cm,qG];omega
theorem DL:∀{l:List (Int×Int)}{k:Nat}{p:Int×Int},l[k]?=some p->(dX l).drop (k*2)=I8 p.1::I8 p.2::dX (l.drop (k+1))|[],k,p,h=>by simp_all|q::l,0,p,h=>by simp at h;subst h;simp[dX]|q::l,k+1,p,h=>by have:=DL (l:=l) (k:=k) (p:=p) (by simp_all);rw[show(k+1)*2=k*2+1+1 by omega,jd,<-this];simp[dX]
theorem mE:∀{l:List Pl.Ins}{k:Nat}{x:Pl.Ins},l[k]?=some x->(A7 l).drop (k*10)=I8 x.op::I8 x.dst::I8 x.loc::Bo x.ra::I8 x.na::Bo x.rb::I8 x.nb::I8 x.fn::I8 x.mode::I8 x.skip::A7 (l.drop (k+1))|[],k,p,h=>by simp_all|q::l,0,p,h=>by simp at h;subst h;simp[A7,qG]|q::l,k+1,p,h=>by have:=mE (l:=l) (k:=k) (x:=p) (by simp_all);rw[show(k+1)*10=k*10+1+1+1+1+1+1+1+1+1+1 by omega,jd,<-this];simp[A7,qG]
theorem AK(loc:Int)(p:Int×Int):∀l,Pl.young loc (l++[p])=if p.1=loc then some p.2 else Pl.young loc l|[]=>by simp[Pl.young]|q::l=>by simp[Pl.young,AK loc p l];grind
abbrev rF(v:Option Int):A:=.tup [I8 (v.getD 0),Bo v.isSome]
set_option maxHeartbeats 4000000 in theorem NA(loc:Int)(bs:List (Int×Int))(hl:(bs.length:Int)<=1152921504606846976)(c:M)(h1:aY Cx [.code c] ⟨[(11,Bo false),(10,I64 (-1)),(0,iC bs),(1,I8 loc),(6,I64 (-1))],[]⟩ (AV Cx.T .shut [.tmp 4,.tmp 5] (rF none))):∀(k:Nat) (i:Int),k<=bs.length->i=(k:Int)-1->aY Cx [.code (.loop aBI),.blk 0,.code c] ⟨[(0,iC bs),(1,I8 loc),(6,I64 i)],[]⟩ (AV Cx.T .shut [.tmp 4,.tmp 5] (rF (Pl.young loc (bs.take k)))):=by intro k;induction k with|zero=>intro i _ hi;(obtain rfl:i=-1:=by omega);rw[aA];simp(disch:=simp)only[go_sem,simprocAttr];simpa[Pl.young]using h1|succ k ih=>intro i hk hi;obtain⟨p,hp⟩:∃p,bs[k]?=some p:=⟨_,ae (by omega)⟩;have hd:=DL hp;rw[show k=i.toNat by omega]at hd;(have htake:bs.take (k+1)=bs.take k++[p]:=by rw[mg,hp];rfl);rw[htake,AK];rw[aA];by_cases hloc:p.1=loc;{rw[if_pos hloc];simp(disch:=omega)only[hd,hloc,rF,dh,ek,go_sem,simprocAttr]};{rw[if_neg hloc];simp(disch:=omega)only[hd,go_sem,simprocAttr];rw[aB (l:=[0,1,6]) rfl];simp(disch:=simp)only[go_sem,simprocAttr];exact ih (i-1) (by omega) (by omega)}
set_option maxHeartbeats 4000000 in theorem XZ(loc:Int)(bs:List (Int×Int))(hl:(bs.length:Int)<=1152921504606846976):EvQ Cx 85 [iC bs,I8 loc] (rF (Pl.young loc bs)):=by refine evF aXz ?_;simp(disch:=simp) [go_sem];rw[aB rfl];simp(disch:=omega) [go_sem];have key:=fun c h1=>NA loc bs hl c h1 bs.length (bs.length-1) (ar _) rfl;simp at key;refine key _ ?_;simp(disch:=simp) [go_sem]
abbrev U7(nt vw rp b:Int)(ev:Bool):A:=.agg [I8 nt,I8 vw,I8 rp,I64 b,Bo ev]
abbrev jG(c:Pl.Core):A:=nE c.pc c.g (iC c.buf) c.waits c.drain
section
variable{bb:Bool}{dst:Option Nat}{j:Nat}{ms:List MOp}{st:Ev.St}{k:List It}{Q:Ex->Ev.St->Prop}
theorem eY{s:Int}{b:Bool}{pc:Int}{r0 r1 r2 r3 r4 r5 r6 r7:Int}{bf:A}{w d:Bool}{x0:Option Blk}{tl:aF}{e:Env}:lI Cx 84 [I8 s,Bo b,.ptr 1 0] dst ms ⟨e,x0::some ⟨95,[I8 pc,I8 r0,I8 r1,I8 r2,I8 r3,I8 r4,I8 r5,I8 r6,I8 r7,bf,Bo w,Bo d],true⟩::tl⟩ k Q↔gJ Cx 0 ms ⟨put e dst (I8 (if b&&!w then s else 4)),x0::some ⟨95,[I8 pc,I8 r0,I8 r1,I8 r2,I8 r3,I8 r4,I8 r5,I8 r6,I8 r7,bf,Bo w,Bo d],true⟩::tl⟩ k Q:=by rw[aG aV0 rfl];cases b<;>cases w<;>simp(disch:=simp) [go_sem]
theorem oO{loc:Int}{bs:List (Int×Int)}(hl:(bs.length:Int)<=1152921504606846976):QK Cx 85 [.sl bs.length (dX bs),I8 loc] bb dst j ms st k Q↔((bb||iG (rF (Pl.young loc bs)))=true/\gJ Cx j ms ⟨put st.env dst (rF (Pl.young loc bs)),st.H⟩ k Q):=QK.use (XZ loc bs hl)
end
set_option maxHeartbeats 8000000 in theorem QL(l:List Pl.Ins)(hl:(l.length:Int)<=1152921504606846976)(nt vw rp b:Int)(ev:Bool)(pc:Int)(g:Nat->Int)(bs:List (Int×Int))(w d:Bool)(p1:0<=pc)(p2:pc<=255)(hb:(bs.length:Int)<=1152921504606846976):EvQ Cx 46 [fP l,U7 nt vw rp b ev,nE pc g (iC bs) w d] (I8 (Pl.next l b ⟨pc,g,bs,w,d⟩)):=by refine evF aID ?_;(have hE:bs.isEmpty=((bs.length:Int)==0):=by cases bs with|nil=>rfl|cons p l=>simp only[List.isEmpty_cons,ce];rw[cZ (by omega)]);by_cases hpc:pc<l.length;(case neg=>have hn:l[pc.toNat]?=none:=ki (by omega);simp(disch:=omega)only[hn,hE,eY,Pl.next,Pl.free,go_sem,simprocAttr]);obtain⟨x,hx⟩:∃x,l[pc.toNat]?=some x:=⟨_,ae (by omega)⟩;have hd:=mE hx;by_cases h3:x.op=3;(case pos=>simp(disch:=omega)only[hx,hd,h3,lu,eY,Pl.next,Pl.free,go_sem,simprocAttr]);by_cases h8:x.op=8;(case pos=>simp(disch:=omega)only[hx,hd,h8,lr,eY,Pl.next,Pl.free,go_sem,simprocAttr]);by_cases h7:x.op=7;(case pos=>by_cases he:(bs.length:Int)=0;{simp(disch:=omega)only[hx,hd,h7,hE,he,ir,eY,Pl.next,Pl.free,go_sem,simprocAttr]};{simp(disch:=omega)only[hx,hd,h7,hE,ir,eY,Pl.next,Pl.free,go_sem,simprocAttr]});by_cases h2:x.op=2;(case pos=>by_cases hbb:b>0;{simp(disch:=omega)only[hx,hd,h2,ir,eY,Pl.next,Pl.free,go_sem,simprocAttr]};{simp(disch:=omega)only[hx,hd,h2,ir,eY,Pl.next,Pl.free,go_sem,simprocAttr]});by_cases h1:x.op=1;(case pos=>cases hy:Pl.young x.loc bs with|none=>simp(disch:=omega)only[hx,hd,hy,h1,ir,eY,oO,rF,fe,fu,Pl.next,Pl.free,go_sem,simprocAttr]|some v=>simp(disch:=omega)only[hx,hd,hy,h1,ir,eY,oO,rF,ek,dh,Pl.next,Pl.free,go_sem,simprocAttr]);by_cases he:(bs.length:Int)=0;{by_cases h4:x.op=4;(case pos=>simp(disch:=omega)only[hx,hd,h4,hE,he,ir,lu,eY,Pl.next,Pl.free,go_sem,simprocAttr]);by_cases h5:x.op=5;(case pos=>simp(disch:=omega)only[hx,hd,h5,hE,he,ir,lu,lr,eY,Pl.next,Pl.free,go_sem,simprocAttr]);by_cases h6:x.op=6;(case pos=>simp(disch:=omega)only[hx,hd,h6,hE,he,ir,lr,eY,Pl.next,Pl.free,go_sem,simprocAttr]);simp(disch:=omega)only[hx,hd,h1,h2,h3,h4,h5,h6,h7,h8,he,ir,Pl.next,go_sem,simprocAttr]};{by_cases h4:x.op=4;(case pos=>simp(disch:=omega)only[hx,hd,h4,hE,ir,lu,eY,Pl.next,Pl.free,go_sem,simprocAttr]);by_cases h5:x.op=5;(case pos=>simp(disch:=omega)only[hx,hd,h5,hE,ir,lu,lr,eY,Pl.next,Pl.free,go_sem,simprocAttr]);by_cases h6:x.op=6;(case pos=>simp(disch:=omega)only[hx,hd,h6,hE,ir,lr,eY,Pl.next,Pl.free,go_sem,simprocAttr]);simp(disch:=omega)only[hx,hd,h1,h2,h3,h4,h5,h6,h7,h8,ir,Pl.next,go_sem,simprocAttr]}
theorem iD{a b:Int}:(if b<a then b else a)=min a b:=by omega
theorem bZ(z:List Value):∀n,(iJ z n).length=n*z.length|0=>by simp[iJ]|n+1=>by simp[iJ,bZ z n,Nat.add_mul];omega
theorem MA(z:List Value)(n m:Nat)(h:n*z.length<=m):(iJ z n).drop m=[]:=db (by rw[bZ];omega)
theorem bP(l:List (Int×Int)):(dX l).take (l.length*2)=dX l:=ab (by rw[cH];simp)
theorem bV(l:List (Int×Int)):bW (dX l)=true:=by induction l with|nil=>rfl|cons p l ih=>simpa[dX,bW,one]using ih
theorem eF{H:aF}{n:Nat}(l:List (Int×Int)):bO (freeze H (n+1)) (dX l)=some (dX l):=by induction l with|nil=>rfl|cons p l ih=>(have:dX (p::l)=I8 p.1::I8 p.2::dX l:=by simp[dX]);rw[this];simp[dT,uZ,ih]
theorem dB(l:List (Int×Int)):iX (dX l)=dX l:=by induction l with|nil=>rfl|cons p l ih=>(have:dX (p::l)=I8 p.1::I8 p.2::dX l:=by simp[dX]);rw[this];simp[iX,nrm,ih]
theorem VO(l:List (Int×Int))(a b:Int):dX l++[I8 a,I8 b]=dX (l++[(a,b)]):=by simp[dX]
theorem NP(l:List (Int×Int))(p:Int×Int):(dX (l++[p])).take ((l.length+1)*2)=dX (l++[p]):=ab (by rw[cH];simp)
theorem cU(a b:Value)(n:Nat):(iJ [a,b] n).drop (n*2)=[]:=MA _ n _ (ar _)
section
variable{bb:Bool}{dst:Option Nat}{j:Nat}{ms:List MOp}{st:Ev.St}{k:List It}{Q:Ex->Ev.St->Prop}
theorem iO{l:List Pl.Ins}{nt vw rp b:Int}{ev:Bool}{pc:Int}{r0 r1 r2 r3 r4 r5 r6 r7:Int}{bs:List (Int×Int)}{w d:Bool}(hl:(l.length:Int)<=1152921504606846976)(p1:0<=pc)(p2:pc<=255)(hb:(bs.length:Int)<=1152921504606846976):QK Cx 46 [.sl l.length (A7 l),.agg [I8 nt,I8 vw,I8 rp,I64 b,Bo ev],.agg [I8 pc,I8 r0,I8 r1,I8 r2,I8 r3,I8 r4,I8 r5,I8 r6,I8 r7,.sl bs.length (dX bs),Bo w,Bo d]] bb dst j ms st k Q↔((bb||iG (I8 (Pl.next l b ⟨pc,fun i=>[r0,r1,r2,r3,r4,r5,r6,r7].getD i 0,bs,w,d⟩)))=true/\gJ Cx j ms ⟨put st.env dst (I8 (Pl.next l b ⟨pc,fun i=>[r0,r1,r2,r3,r4,r5,r6,r7].getD i 0,bs,w,d⟩)),st.H⟩ k Q):=QK.use (QL l hl nt vw rp b ev pc (fun i=>[r0,r1,r2,r3,r4,r5,r6,r7].getD i 0) bs w d p1 p2 hb)
theorem gQ{pc:Int}{r0 r1 r2 r3 r4 r5 r6 r7:Int}{m:Nat}{cs:List A}{w d r:Bool}{n:Int}(n1:0<=n)(n2:n<=255):QK Cx 186 [.agg [I8 pc,I8 r0,I8 r1,I8 r2,I8 r3,I8 r4,I8 r5,I8 r6,I8 r7,.sl m cs,Bo w,Bo d],.agg [Bo r,I8 n]] bb dst j ms st k Q↔((bb||iG (I8 (Pl.value (fun i=>[r0,r1,r2,r3,r4,r5,r6,r7].getD i 0) r n)))=true/\gJ Cx j ms ⟨put st.env dst (I8 (Pl.value (fun i=>[r0,r1,r2,r3,r4,r5,r6,r7].getD i 0) r n)),st.H⟩ k Q):=TU rfl n1 n2
end
theorem gH(l:List Pl.Ins)(b pc:Int)(g:Nat->Int)(bs:List (Int×Int))(w d:Bool)(g':Nat->Int):Pl.next l b ⟨pc,g',bs,w,d⟩=Pl.next l b ⟨pc,g,bs,w,d⟩:=by simp[Pl.next,Pl.free]
theorem pN(g:Nat->Int)(r:Bool)(n:Int)(n1:0<=n):Pl.value (fun i=>[g 0,g 1,g 2,g 3,g 4,g 5,g 6,g 7].getD i 0) r n=Pl.value g r n:=by unfold Pl.value;cases r;{rfl};{by_cases h:n<8;{obtain h|h|h|h|h|h|h|h:=BE n1 h<;>subst h<;>rfl};grind}
set_option maxHeartbeats 8000000 in theorem aYD(l:List Pl.Ins)(hl:(l.length:Int)<=1152921504606846976)(nt vw rp b:Int)(ev:Bool)(pc:Int)(g:Nat->Int)(bs:List (Int×Int))(w d:Bool)(p1:0<=pc)(p2:pc<=255)(hb:(bs.length:Int)<=1000000)(hn:¬Pl.next l b ⟨pc,g,bs,w,d⟩=2):EvQ Cx 114 [fP l,U7 nt vw rp b ev,nE pc g (iC bs) w d] (nE pc g (iC bs) w d):=by refine evF WQ ?_;simp(disch:=omega) [gH l b pc g,dB,iO,bZ,cH,bP,bV,eF,cU,maxLen,go_sem,aG fF rfl]
theorem ZB{l:List Pl.Ins}{b pc:Int}{g:Nat->Int}{bs:List (Int×Int)}{w d:Bool}(p1:0<=pc)(hn:Pl.next l b ⟨pc,g,bs,w,d⟩=2):pc<l.length/\∃x,l[pc.toNat]?=some x:=by cases hx:l[pc.toNat]? with|none=>unfold Pl.next at hn;simp[hx,Pl.free]at hn;omega|some x=>grind
set_option maxHeartbeats 16000000 in theorem aHE(l:List Pl.Ins)(hl:(l.length:Int)<=1152921504606846976)(nt vw rp b:Int)(ev:Bool)(pc:Int)(g:Nat->Int)(bs:List (Int×Int))(w d:Bool)(p1:0<=pc)(p2:pc<=255)(hb:(bs.length:Int)<=1000000)(hg:∀i,0<=g i/\g i<=255)(hI:∀x∈l,x.Ok)(hn:Pl.next l b ⟨pc,g,bs,w,d⟩=2):EvQ Cx 114 [fP l,U7 nt vw rp b ev,nE pc g (iC bs) w d] (jG (Pl.loc l b ⟨pc,g,bs,w,d⟩)):=by obtain⟨hpc,x,hx⟩:=ZB p1 hn;have hd:=mE hx;obtain⟨o1,o2,o3,o4,o5,o6,o7,o8⟩:=hI x (ah hx);simp only[Pl.u8]at o1 o2 o3 o4 o5 o6 o7 o8;(have hL:Pl.loc l b ⟨pc,g,bs,w,d⟩=Pl.loc1 x l ⟨pc,g,bs,w,d⟩:=by simp only[Pl.loc,hn,hx,em]);rw[hL];have va:=pN g x.ra x.na (by omega);have vb:=pN g x.rb x.nb (by omega);refine evF WQ ?_;by_cases h7:x.op=7;(case pos=>simp(disch:=omega)only[gH l b pc g,hn,hd,h7,Pl.loc1,Pl.on,dB,iO,az,bZ,cH,bP,bV,eF,cU,eo,ar,maxLen,iM,kO,fK,gC,d7,nC,iD,go_sem,simprocAttr,aG fF rfl,aG aIP rfl,aG kC rfl]<;>((try simp only[dt,A.v.injEq,A.sl.injEq,am,ce,cm,Value.int.injEq,iu,ig]);(first|omega|done)));by_cases h8:x.op=8;(case pos=>cases ht:Pl.tst x.fn (Pl.value g x.ra x.na) (Pl.value g x.rb x.nb)with|true=>simp(disch:=omega)only[gH l b pc g,hn,hd,h8,ht,va,vb,Pl.loc1,Pl.on,dB,iO,gQ,HV,az,bZ,cH,bP,bV,eF,cU,eo,ar,maxLen,iM,kO,fK,gC,d7,nC,iD,go_sem,simprocAttr,aG fF rfl,aG aCM rfl,aG kC rfl]<;>((try simp only[dt,A.v.injEq,A.sl.injEq,am,ce,cm,Value.int.injEq,iu,ig]);(first|omega|done))|false=>simp(disch:=omega)only[gH l b pc g,hn,hd,h8,ht,va,vb,Pl.loc1,Pl.on,dB,iO,gQ,HV,az,bZ,cH,bP,bV,eF,cU,eo,ar,maxLen,iM,kO,fK,gC,d7,nC,iD,go_sem,simprocAttr,aG fF rfl,aG aCM rfl,aG kC rfl]<;>((try simp only[dt,A.v.injEq,A.sl.injEq,am,ce,cm,Value.int.injEq,iu,ig]);(first|omega|done)));by_cases h2:x.op=2;(case pos=>simp(disch:=omega)only[gH l b pc g,hn,hd,h2,va,Pl.loc1,Pl.on,dB,iO,gQ,az,bZ,cH,bP,NP,bV,eF,VO,cU,eo,ar,maxLen,iM,kO,fK,gC,d7,nC,iD,am,go_sem,simprocAttr,aG fF rfl,aG aOP rfl,aG kC rfl]<;>((try simp only[dt,A.sl.injEq,am,ce,cm,iu]);(first|omega|done)));by_cases h3:x.op=3;(case pos=>by_cases hD:x.dst<8;(case pos=>obtain h|h|h|h|h|h|h|h:=BE o2.1 hD;all_goals simp(disch:=omega)only[gH l b pc g,hn,hd,h3,h,va,vb,Pl.set,Pl.loc1,Pl.on,dB,iO,gQ,H9,az,bZ,cH,bP,bV,eF,cU,eo,ar,maxLen,iM,kO,fK,gC,d7,nC,iD,go_sem,simprocAttr,aG fF rfl,aG W9 rfl,aG kC rfl,aG xE rfl]<;>((try simp only[dt,A.v.injEq,A.sl.injEq,am,ce,cm,Value.int.injEq,iu,ig]);(first|omega|done)));simp(disch:=omega)only[gH l b pc g,hn,hd,h3,hD,va,vb,Pl.set,false_and,Pl.loc1,Pl.on,dB,iO,gQ,H9,az,bZ,cH,bP,bV,eF,cU,eo,ar,maxLen,iM,kO,fK,gC,d7,nC,iD,go_sem,simprocAttr,aG fF rfl,aG W9 rfl,aG kC rfl,aG xE rfl]<;>((try simp only[dt,A.v.injEq,A.sl.injEq,am,ce,cm,Value.int.injEq,iu,ig]);(first|omega|done)));by_cases h1:x.op=1;(case pos=>cases hy:Pl.young x.loc bs with|none=>simp(disch:=omega)only[gH l b pc g,hn,hd,h1,hy,Pl.loc1,Pl.on,dB,iO,oO,az,bZ,cH,bP,bV,eF,cU,eo,ar,maxLen,iM,kO,fK,gC,d7,nC,iD,fe,fu,go_sem,simprocAttr,aG fF rfl,aG OJ rfl,aG kC rfl]<;>((try simp only[dt,A.v.injEq,A.sl.injEq,am,ce,cm,Value.int.injEq,iu,ig]);(first|omega|done))|some v=>by_cases hD:x.dst<8;(case pos=>obtain h|h|h|h|h|h|h|h:=BE o2.1 hD;all_goals simp(disch:=omega)only[gH l b pc g,hn,hd,h1,hy,h,Pl.set,Pl.loc1,Pl.on,dB,iO,oO,az,bZ,cH,bP,bV,eF,cU,eo,ar,maxLen,iM,kO,fK,gC,d7,nC,iD,ek,dh,go_sem,simprocAttr,aG fF rfl,aG OJ rfl,aG kC rfl,aG xE rfl]<;>((try simp only[dt,A.v.injEq,A.sl.injEq,am,ce,cm,Value.int.injEq,iu,ig]);(first|omega|done)));simp(disch:=omega)only[gH l b pc g,hn,hd,h1,hy,hD,Pl.set,false_and,Pl.loc1,Pl.on,dB,iO,oO,az,bZ,cH,bP,bV,eF,cU,eo,ar,maxLen,iM,kO,fK,gC,d7,nC,iD,ek,dh,go_sem,simprocAttr,aG fF rfl,aG OJ rfl,aG kC rfl,aG xE rfl]<;>((try simp only[dt,A.v.injEq,A.sl.injEq,am,ce,cm,Value.int.injEq,iu,ig]);(first|omega|done)));simp(disch:=omega)only[gH l b pc g,hn,hd,h1,h2,h3,h7,h8,Pl.loc1,dB,iO,az,bZ,cH,bP,bV,eF,cU,eo,ar,maxLen,iM,kO,fK,gC,d7,CR,nC,go_sem,simprocAttr,aG fF rfl]<;>((try simp only[dt,A.v.injEq,A.sl.injEq,am,ce,cm,Value.int.injEq,iu,ig]);(first|omega|done))
abbrev aIL(o:Pl.Op):A:=.agg [I8 o.kind,I8 o.loc,I8 o.a,I8 o.b]
set_option maxHeartbeats 8000000 in theorem aKX(l:List Pl.Ins)(hl:(l.length:Int)<=1152921504606846976)(hI:∀x∈l,x.Ok)(pc:Int)(g:Nat->Int)(bs:List (Int×Int))(w d:Bool)(p1:0<=pc)(p2:pc<=255)(hg:∀i,0<=g i/\g i<=255):EvQ Cx 116 [fP l,nE pc g (iC bs) w d] (aIL (Pl.ask l ⟨pc,g,bs,w,d⟩)):=by refine evF aRa ?_;by_cases hpc:pc<l.length;(case neg=>have hn:l[pc.toNat]?=none:=ki (by omega);simp(disch:=omega)only[hn,Pl.ask,go_sem,simprocAttr]);obtain⟨x,hx⟩:∃x,l[pc.toNat]?=some x:=⟨_,ae (by omega)⟩;have hd:=mE hx;obtain⟨o1,o2,o3,o4,o5,o6,o7,o8⟩:=hI x (ah hx);simp only[Pl.u8]at o1 o2 o3 o4 o5 o6 o7 o8;have va:=pN g x.ra x.na (by omega);have vb:=pN g x.rb x.nb (by omega);by_cases h1:x.op=1;(case pos=>simp(disch:=omega)only[hx,hd,h1,Pl.ask,go_sem,simprocAttr]);by_cases h2:x.op=2;(case pos=>simp(disch:=omega)only[hx,hd,h2,Pl.ask,gQ,va,lu,go_sem,simprocAttr]);by_cases h4:x.op=4;(case pos=>simp(disch:=omega)only[hx,hd,h4,Pl.ask,gQ,va,lu,lr,go_sem,simprocAttr]);by_cases h5:x.op=5;(case pos=>simp(disch:=omega)only[hx,hd,h5,Pl.ask,gQ,va,lr,go_sem,simprocAttr]);by_cases h6:x.op=6;(case pos=>simp(disch:=omega)only[hx,hd,h6,Pl.ask,gQ,va,vb,ir,go_sem,simprocAttr]);simp(disch:=omega)only[hx,hd,h1,h2,h4,h5,h6,Pl.ask,ir,go_sem,simprocAttr]
abbrev xA:Option (Int×Int)->A|some p=>.tup [.agg [I8 2,I8 p.1,I8 p.2,I8 0],Bo true]|none=>.tup [.agg [I8 0,I8 0,I8 0,I8 0],Bo false]
set_option maxHeartbeats 8000000 in theorem WU(pc:Int)(g:Nat->Int)(bs:List (Int×Int))(w d:Bool)(hb:(bs.length:Int)<=1000000):EvQ Cx 117 [nE pc g (iC bs) w d] (xA (Pl.drains ⟨pc,g,bs,w,d⟩)):=by refine evF aQZ ?_;cases bs with|nil=>cases w<;>cases d<;>simp(disch:=simp)only[Pl.drains,xA,List.head?_nil,iC,bp,go_sem,simprocAttr]|cons p t=>(have hc:dX (p::t)=I8 p.1::I8 p.2::dX t:=by simp[dX]);cases w<;>cases d<;>simp(disch:=omega)only[Pl.drains,xA,List.head?_cons,iC,hc,go_sem,simprocAttr]
set_option maxHeartbeats 8000000 in theorem UU(l:List Pl.Ins)(pc:Int)(g:Nat->Int)(bs:List (Int×Int))(w:Bool)(p1:0<=pc)(p2:pc<=255)(hb:(bs.length:Int)<=1000000)(pco pk pl pa pb old new:Int)(hw:w=false):EvQ Cx 196 [fP l,nE pc g (iC bs) w false,.agg [I8 pco,I8 pk,I8 pl,I8 pa,I8 pb,I8 old,I8 new]] (nE pc g (iC bs) false false):=by subst hw;refine evF qO ?_;simp(disch:=omega) [dB,bZ,cH,bP,bV,eF,cU,maxLen,go_sem,aG fF rfl]
set_option maxHeartbeats 8000000 in theorem UX(l:List Pl.Ins)(hl:(l.length:Int)<=1152921504606846976)(hI:∀x∈l,x.Ok)(pc:Int)(g:Nat->Int)(bs:List (Int×Int))(w:Bool)(p1:0<=pc)(p2:pc<=255)(hb:(bs.length:Int)<=1000000)(pco pk pl pa pb old new:Int)(hw:w=true)(hpc:pc<l.length):EvQ Cx 196 [fP l,nE pc g (iC bs) w false,.agg [I8 pco,I8 pk,I8 pl,I8 pa,I8 pb,I8 old,I8 new]] (jG (Pl.back l ⟨pc,g,bs,true,false⟩ old)):=by subst hw;obtain⟨x,hx⟩:∃x,l[pc.toNat]?=some x:=⟨_,ae (by omega)⟩;have hd:=mE hx;obtain⟨o1,o2,o3,o4,o5,o6,o7,o8⟩:=hI x (ah hx);simp only[Pl.u8]at o1 o2 o3 o4 o5 o6 o7 o8;refine evF qO ?_;by_cases h2:x.op=2;(case pos=>simp(disch:=omega)only[hx,hd,h2,Pl.on,dB,az,bZ,cH,bP,bV,eF,cU,eo,ar,maxLen,nC,iD,Pl.back,go_sem,simprocAttr,aG fF rfl,aG kC rfl]<;>((try simp only[dt,A.v.injEq,Value.int.injEq,iu,ig]);(first|omega|done)));by_cases hD:x.dst<8;(case pos=>obtain h|h|h|h|h|h|h|h:=BE o2.1 hD;all_goals simp(disch:=omega)only[hx,hd,h2,h,Pl.set,Pl.on,dB,az,bZ,cH,bP,bV,eF,cU,eo,ar,maxLen,nC,iD,Pl.back,go_sem,simprocAttr,aG fF rfl,aG kC rfl,aG xE rfl]<;>((try simp only[dt,A.v.injEq,Value.int.injEq,iu,ig]);(first|omega|done)));simp(disch:=omega)only[hx,hd,h2,hD,Pl.set,Pl.on,false_and,dB,az,bZ,cH,bP,bV,eF,cU,eo,ar,maxLen,nC,iD,Pl.back,go_sem,simprocAttr,aG fF rfl,aG kC rfl,aG xE rfl]<;>((try simp only[dt,A.v.injEq,Value.int.injEq,iu,ig]);(first|omega|done))
theorem A3(t:List (Int×Int))(l:List A):(dX t++l).take (t.length*2)=dX t:=by rw[fh (by rw[cH];simp),bP]
set_option maxHeartbeats 16000000 in theorem NM(l:List Pl.Ins)(pc:Int)(g:Nat->Int)(p:Int×Int)(t:List (Int×Int))(w:Bool)(hb:(t.length:Int)<=999999)(pco pk pl pa pb old new:Int):EvQ Cx 196 [fP l,nE pc g (iC (p::t)) w true,.agg [I8 pco,I8 pk,I8 pl,I8 pa,I8 pb,I8 old,I8 new]] (nE pc g (iC t) w false):=by refine evF qO ?_;(have hc:dX (p::t)=I8 p.1::I8 p.2::dX t:=by simp[dX]);(have ho:bW (I8 p.1::I8 p.2::dX t)=true:=by rw[<-hc];exact bV _);have hz:(iJ [Value.int .u8 0,Value.int .u8 0] (t.length+1)).drop ((t.length+1)*2)=[]:=cU _ _ _;(have ht:(I8 p.1::I8 p.2::dX t).take ((t.length+1)*2)=I8 p.1::I8 p.2::dX t:=by rw[<-hc];exact bP (p::t));cases t with|nil=>simp(disch:=omega)only[eo,ar,maxLen,nC,iC,dX,List.flatMap_nil,oe,bp,go_sem,simprocAttr,aG fF rfl]|cons q t=>(have hn1:(((q::t).length+1:Nat):Int)-1=((q::t).length:Int):=by omega);(have hm:min (q::t).length ((q::t).length+1)=(q::t).length:=by omega);(have h0:0<(q::t).length:=by simp);generalize q::t=t at*;simp(disch:=omega)only[dB,az,bZ,cH,bP,bV,eF,eo,ar,maxLen,nC,iC,hc,ho,ht,hn1,hm,A3,Nat.add_one_sub_one,am,fg,ke,lq,go_sem,simprocAttr,aG fF rfl]
