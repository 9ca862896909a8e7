/- tags: Victim. -/
import Derived.Test.YtpdphobnchajbaaGreatDoorQ36
set_option linter.unusedSimpArgs false
set_option linter.unusedVariables false
namespace Go.Proofs.YtpdphobnchajbaaGreatDoor.Ev
open Go Go.RowKit
set_option maxRecDepth 100000
set_option maxHeartbeats 16000000
def aIr:Prop:=∀{t:Tl} (_:t.Ok) {H:aG} {tb:Nat} (_:H[tb]?=some (some ⟨42,cT9 t,true⟩)) {x:Ln} (_:x.Ok),∃ b l,EvO Cx 225 [.clo 182 [] [.ptr tb 0],eL x] H (Bo b) (H++l)
section
variable{c h o s y:Int}
theorem YU(ag:aIr){t:Tl}(ht:t.Ok){H:aG}{tb:Nat}(hT:H[tb]?=some (some ⟨42,cT9 t,true⟩)){K:Ca}(ko:K.Ok){n:Nat}(hy:y=n)(hn:n≤4){q:Nat}(hq:q<4){RES:Option Blk}{KK:List It}{Q:Ex→Ev.St→Prop} :
  ∀(d w ws:Nat) (T:aG),w+d=n→ws<16→(∀ ws T,ws<16→dN Cx (.out 0) KK ⟨[(10,Bo false),(0,.yl (H.length+9)),(2,.ptr (H.length+7) 0),(3,.ptr (H.length+8) 0),(8,I64 y),(9,I64 y)],H++some ⟨31,[I64 c,I64 h,I64 o,I64 s,I64 y],true⟩::some ⟨123,cC K,true⟩::some ⟨296,[.clo 182 [] [.ptr tb 0]],true⟩::RES::some ⟨342,[I64 c,I64 h,I64 o,I64 s,I64 y],true⟩::some ⟨48,[W64 (ws:Nat)],true⟩::some ⟨342,[I64 c,I64 h,I64 o,I64 s,I64 y],true⟩::some ⟨344,[.ptr (H.length+1) 0],true⟩::some ⟨3,[I64 q],true⟩::some ⟨0,[.lrec 65 [33,34] [7,12] xT yF,I64 0,I64 0,.ptr (H.length+2) 0,.ptr (H.length+5) 0],true⟩:: T⟩ Q) →
   bG Cx (.code (.loop oH)::KK) ⟨[(0,.yl (H.length+9)),(2,.ptr (H.length+7) 0),(3,.ptr (H.length+8) 0),(8,I64 y),(9,I64 w)],H++some ⟨31,[I64 c,I64 h,I64 o,I64 s,I64 y],true⟩::some ⟨123,cC K,true⟩::some ⟨296,[.clo 182 [] [.ptr tb 0]],true⟩::RES::some ⟨342,[I64 c,I64 h,I64 o,I64 s,I64 y],true⟩::some ⟨48,[W64 (ws:Nat)],true⟩::some ⟨342,[I64 c,I64 h,I64 o,I64 s,I64 y],true⟩::some ⟨344,[.ptr (H.length+1) 0],true⟩::some ⟨3,[I64 q],true⟩::some ⟨0,[.lrec 65 [33,34] [7,12] xT yF,I64 0,I64 0,.ptr (H.length+2) 0,.ptr (H.length+5) 0],true⟩:: T⟩ Q:=by
 intro d
 induction d with
 |zero =>
  intro w ws T hw hs hE
  obtain rfl:w=n:=by omega
  subst hy
  rw[aA]
  simp(disch:=omega)only[Int.lt_irrefl,go_sem,simprocAttr]
  exact hE ws T hs
 |succ d ih =>
  intro w ws T hw hs hE
  subst hy
  have hw4:w<4:=by omega
  have hwn:w<n:=by omega
  have hd:=sF K hq hw4
  have hd':=tK K hq hw4
  have nx:∀ ws T,ws<16→bG Cx (.code (.loop oH)::KK) ⟨[(0,.yl (H.length+9)),(2,.ptr (H.length+7) 0),(3,.ptr (H.length+8) 0),(8,I64 (n:Int)),(9,I64 ((w:Int)+1))],H++some ⟨31,[I64 c,I64 h,I64 o,I64 s,I64 (n:Int)],true⟩::some ⟨123,cC K,true⟩::some ⟨296,[.clo 182 [] [.ptr tb 0]],true⟩::RES::some ⟨342,[I64 c,I64 h,I64 o,I64 s,I64 (n:Int)],true⟩::some ⟨48,[W64 (ws:Nat)],true⟩::some ⟨342,[I64 c,I64 h,I64 o,I64 s,I64 (n:Int)],true⟩::some ⟨344,[.ptr (H.length+1) 0],true⟩::some ⟨3,[I64 q],true⟩::some ⟨0,[.lrec 65 [33,34] [7,12] xT yF,I64 0,I64 0,.ptr (H.length+2) 0,.ptr (H.length+5) 0],true⟩:: T⟩ Q:=fun ws T hs=>by
   have:=ih (w+1) ws T (by omega) hs hE
   simpa only[Int.natCast_add,Int.natCast_one]using this
  rw[aA]
  have hf:=xQ (K.W q w)
  by_cases hz:(K.W q w).state=0
  ·rw[decide_eq_true hz]at hf
   simp(disch:=omega)only[go_sem,simprocAttr,dC,eU,bP,dK,bX,dM,bS,fK.blk,dY,bN,hd,QK.use hf]
   rw[aB (l:=[0,2,3,8,9]) rfl]
   simp(disch:=omega)only[go_sem,simprocAttr]
   exact nx _ _ hs
  ·rw[decide_eq_false hz]at hf
   simp(disch:=omega)only[go_sem,simprocAttr,dC,eU,bP,dK,bX,fK.blk,dY,bN,hd,QK.use hf]
   obtain⟨b,L,hag⟩:=ag ht (aI hT _) (ko.W q w hq hw4)
   refine(eT hag).2 ?_
   cases b with
   |false =>
    simp(disch:=omega)only[go_sem,simprocAttr,dM,bS,fK.blk,bN,List.append_assoc,List.cons_append]
    rw[aB (l:=[0,2,3,8,9]) rfl]
    simp(disch:=omega)only[go_sem,simprocAttr]
    exact nx _ _ hs
   |true =>
    have hshl:=Q9 w hw4
    have hor:=aDe ws hs w hw4
    simp(disch:=omega)only[go_sem,simprocAttr]at hshl hor
    simp(disch:=omega)only[go_sem,simprocAttr,dM,bS,fK.blk,bN,hshl,hor,List.append_assoc,List.cons_append]
    rw[aB (l:=[0,2,3,8,9]) rfl]
    simp(disch:=omega)only[go_sem,simprocAttr]
    exact nx _ _ (aOr ws hs w hw4)
theorem B1(ag:aIr)(hk:OkG c h o s y){t:Tl}(ht:t.Ok){H:aG}{tb:Nat}(hT:H[tb]?=some (some ⟨42,cT9 t,true⟩)){k:Ca}(ko:k.Ok){l:Int}(l0:0≤l)(l1:l≤255) :
  bW Cx 183 [fR c h o s y,eC k,I8 l,.clo 182 [] [.ptr tb 0]] H fun y' K=>∃ x ok L,y'=.tup [eL x,Bo ok]∧x.Ok∧K=H++L:=by
 have hR:=gQ hk
 have hS:=aQl hk l0 l1
 have hta:∀ k,List.take 160 (cC k)=cC k:=fun k=>List.take_of_length_le (by rw[aY];omega)
 have hdr:∀ k,List.drop 160 (cC k)=[]:=fun k=>List.drop_eq_nil_of_le (by rw[aY];omega)
 obtain⟨c1,c2,h1,h2,o1,o2,s1,s2,y1,y2⟩:=id hk
 have d1:=Int.emod_nonneg l (show s≠0 by omega)
 have d2:=Int.emod_lt_of_pos l (show 0<s by omega)
 obtain⟨q,hq⟩:∃ q:Nat,l % s=q:=⟨(l % s).toNat,by omega⟩
 rw[hq]at hS
 have hq4:q<4:=by omega
 obtain⟨n,rfl⟩:∃ n:Nat,y=n:=⟨y.toNat,by omega⟩
 rw[aP aWB aUY];refine⟨by simp[KG],?_⟩
 simp(disch:=omega)only[go_sem,simprocAttr,QK.use hR,QK.use hS,aK PI NN,lM,oI,gP]
 rw[aP QL NE]
 simp(disch:=omega)only[go_sem,simprocAttr]
 rw[aB (l:=[0,2,3,8,9]) rfl]
 simp(disch:=omega)only[go_sem,simprocAttr]
 refine YU ag ht hT ko (n:=n) (q:=q) rfl (by omega) hq4 n 0 0 [] (by omega) (by decide) (fun ws T hws=>?_)
 obtain⟨way,ok,hV,hw⟩:=OH (ko.N q hq4) (may:=ws) (by omega)
 have hd:=EU k hq4
 simp only[cR]at hd hV
 cases ok with
 |false =>
  simp(disch:=omega)only[go_sem,simprocAttr,aW,aE,kO,cX,bN,pending,exOfN,hd,QK.use hV,List.flatten_cons,List.flatten_nil,aW,aE]
  exact⟨EX,_,_,rfl,FQ,rfl⟩
 |true =>
  obtain⟨w0,w4⟩:=hw rfl
  obtain⟨m,rfl⟩:∃ m:Nat,way=m:=⟨way.toNat,by omega⟩
  have hm4:m<4:=by omega
  have hw1:=sF k hq4 hm4
  have hw2:=tK k hq4 hm4
  simp(disch:=omega)only[go_sem,simprocAttr,aW,aE,kO,cX,bN,pending,exOfN,hd,hw1,QK.use hV,List.flatten_cons,List.flatten_nil,aW,aE]
  exact⟨k.W q m,_,_,rfl,ko.W _ _ hq4 hm4,rfl⟩
end
theorem aXZ:EvQ Cx 205 [I8 1,I64 1] (.agg (cR ⟨1,1,0,0,0,0,0⟩)):=bI 60 (by kernel_rfl)
theorem aYR:EvQ Cx 205 [I8 1,I64 2] (.agg (cR ⟨1,2,0,1,0,0,0⟩)):=bI 60 (by kernel_rfl)
theorem aZT:EvQ Cx 205 [I8 1,I64 3] (.agg (cR ⟨1,3,0,1,2,0,0⟩)):=bI 60 (by kernel_rfl)
theorem aPq:EvQ Cx 205 [I8 1,I64 4] (.agg (cR ⟨1,4,0,1,2,3,0⟩)):=bI 60 (by kernel_rfl)
theorem a1u:EvQ Cx 205 [I8 2,I64 1] (.agg (cR ⟨2,1,0,0,0,0,0⟩)):=bI 60 (by kernel_rfl)
theorem aUT:EvQ Cx 205 [I8 2,I64 2] (.agg (cR ⟨2,2,0,1,0,0,0⟩)):=bI 60 (by kernel_rfl)
theorem aZL:EvQ Cx 205 [I8 2,I64 3] (.agg (cR ⟨2,3,0,1,2,0,0⟩)):=bI 60 (by kernel_rfl)
theorem aUw:EvQ Cx 205 [I8 2,I64 4] (.agg (cR ⟨2,4,0,1,2,3,0⟩)):=bI 60 (by kernel_rfl)
theorem aPF:EvQ Cx 205 [I8 3,I64 1] (.agg (cR ⟨3,1,0,0,0,0,0⟩)):=bI 60 (by kernel_rfl)
theorem aPB:EvQ Cx 205 [I8 3,I64 2] (.agg (cR ⟨3,2,0,0,0,0,0⟩)):=bI 60 (by kernel_rfl)
theorem aXv:EvQ Cx 205 [I8 3,I64 3] (.agg (cR ⟨3,3,0,0,0,0,0⟩)):=bI 60 (by kernel_rfl)
theorem aSA:EvQ Cx 205 [I8 3,I64 4] (.agg (cR ⟨3,4,0,0,0,0,0⟩)):=bI 60 (by kernel_rfl)
theorem aUb:EvQ Cx 205 [I8 4,I64 1] (.agg (cR ⟨4,1,0,0,0,0,0⟩)):=bI 60 (by kernel_rfl)
theorem aUc:EvQ Cx 205 [I8 4,I64 2] (.agg (cR ⟨4,2,0,1,0,0,0⟩)):=bI 60 (by kernel_rfl)
theorem aZM:EvQ Cx 205 [I8 4,I64 3] (.agg (cR ⟨4,3,0,1,2,0,0⟩)):=bI 60 (by kernel_rfl)
theorem aQk:EvQ Cx 205 [I8 4,I64 4] (.agg (cR ⟨4,4,0,1,2,3,0⟩)):=bI 60 (by kernel_rfl)
theorem aIZ{k n:Int}(k1:1≤k)(k4:k≤4)(n1:1≤n)(n4:n≤4):∃ r:Rp,EvQ Cx 205 [I8 k,I64 n] (.agg (cR r))∧r.Ok∧r.kind=k:=by
 obtain rfl|rfl|rfl|rfl:k=1∨k=2∨k=3∨k=4:=by omega
 ·obtain rfl|rfl|rfl|rfl:n=1∨n=2∨n=3∨n=4:=by omega
  ·exact⟨_,aXZ,by constructor<;>decide,rfl⟩
  ·exact⟨_,aYR,by constructor<;>decide,rfl⟩
  ·exact⟨_,aZT,by constructor<;>decide,rfl⟩
  ·exact⟨_,aPq,by constructor<;>decide,rfl⟩
 ·obtain rfl|rfl|rfl|rfl:n=1∨n=2∨n=3∨n=4:=by omega
  ·exact⟨_,a1u,by constructor<;>decide,rfl⟩
  ·exact⟨_,aUT,by constructor<;>decide,rfl⟩
  ·exact⟨_,aZL,by constructor<;>decide,rfl⟩
  ·exact⟨_,aUw,by constructor<;>decide,rfl⟩
 ·obtain rfl|rfl|rfl|rfl:n=1∨n=2∨n=3∨n=4:=by omega
  ·exact⟨_,aPF,by constructor<;>decide,rfl⟩
  ·exact⟨_,aPB,by constructor<;>decide,rfl⟩
  ·exact⟨_,aXv,by constructor<;>decide,rfl⟩
  ·exact⟨_,aSA,by constructor<;>decide,rfl⟩
 ·obtain rfl|rfl|rfl|rfl:n=1∨n=2∨n=3∨n=4:=by omega
  ·exact⟨_,aUb,by constructor<;>decide,rfl⟩
  ·exact⟨_,aUc,by constructor<;>decide,rfl⟩
  ·exact⟨_,aZM,by constructor<;>decide,rfl⟩
  ·exact⟨_,aQk,by constructor<;>decide,rfl⟩
def zRp:Rp:=⟨0,0,0,0,0,0,0⟩
theorem aQi:zRp.Ok:=by constructor<;>decide
def GA(s:Int)(r:Rp):Ca:=⟨fun _ _=>EX,fun i=>bif Nat.blt i s.toNat then r else zRp,⟨0,0,0,0⟩⟩
section
variable{c h o s y:Int}
theorem aEt{r:Rp}(hr:r.Ok):(GA s r).Ok:=⟨fun _ _ _ _=>FQ,fun i _=>by
 unfold GA
 simp only
 cases Nat.blt i s.toNat
 ·exact aQi
 ·exact hr,show Rq.Ok ⟨0,0,0,0⟩by constructor<;>decide⟩
theorem aBY{k:Int}{r:Rp}(h:EvQ Cx 205 [I8 k,I64 y] (.agg (cR r))):EvQ Cx 147 [I8 k,I64 y] (.agg (cR r)):=by
 refine aX a2Z rfl (by simp[G5]) ?_
 simp(disch:=omega)only[go_sem,simprocAttr,QK.use h]
theorem aMg(hk:OkG c h o s y){k:Int}(k1:1≤k)(k4:k≤4):∃ r:Rp,r.Ok∧EvQ Cx 80 [fR c h o s y,I8 k] (.tup [eC (GA s r),I64 0]):=by
 obtain⟨c1,c2,h1,h2,o1,o2,s1,s2,y1,y2⟩:=id hk
 obtain⟨r,hr,ro,rk⟩:=aIZ k1 k4 y1 y2
 have hR:=gQ hk
 have hF:=aBY hr
 refine⟨r,ro,?_⟩
 refine aX a7p rfl (by simp[aC5]) ?_
 have rk0:¬ r.kind=0:=by omega
 obtain rfl|rfl|rfl|rfl:s=1∨s=2∨s=3∨s=4:=by omega
 all_goals simp(disch:=omega)only[go_sem,simprocAttr,QK.use hR,QK.use hF,List.flatten_cons,List.flatten_nil,cZ rk0]
 repeat' (first|(((first|refine bD (fun hb=>?_) (fun hb=>?_)|refine bY (fun hb=>?_) (fun hb=>?_))<;>(first|subst hb|(have hc:=hb;simp only[decide_eq_true_eq,decide_eq_false_iff_not,beq_iff_eq,bne_iff_ne,beq_eq_false_iff_ne,bne_eq_false_iff_eq,Bool.not_eq_true,Bool.not_eq_eq_eq_not,Bool.not_true,Bool.not_false,ne_eq,Int.not_lt,Int.not_le,Classical.not_not,Bool.and_eq_true,gt_iff_lt,ge_iff_le]at hc)|skip))<;>(first|simp(disch:=omega)only[go_sem,simprocAttr,hb,List.flatten_cons,List.flatten_nil]|simp(disch:=omega)only[go_sem,simprocAttr,List.flatten_cons,List.flatten_nil]))|(rw[aA];simp(disch:=omega)only[go_sem,simprocAttr,List.flatten_cons,List.flatten_nil]))
 all_goals simp only[GA,cC,cL,cR,cO,EX,zRp]
 all_goals first|rfl|(simp;done)
end
section
variable{c h o s y:Int}
theorem aJA(hk:OkG c h o s y){k:Int}(k1:1≤k)(k4:k≤4):∃ x:Ca,EvQ Cx 43 [fR c h o s y,I8 k] (eC x)∧x.Ok∧x.op=⟨0,0,0,0⟩:=by
 obtain⟨r,ro,hT⟩:=aMg hk k1 k4
 have hta:∀ k,List.take 160 (cC k)=cC k:=fun k=>List.take_of_length_le (by rw[aY];omega)
 have hdr:∀ k,List.drop 160 (cC k)=[]:=fun k=>List.drop_eq_nil_of_le (by rw[aY];omega)
 refine⟨GA s r,?_,aEt ro,rfl⟩
 refine aX a35 rfl (by simp[aEI]) ?_
 simp(disch:=omega)only[go_sem,simprocAttr,QK.use hT,hta,List.flatten_cons,List.flatten_nil]
theorem aLK{k:Int}{n:Nat}(n1:1≤n)(n4:n≤4)(k1:1≤k)(k3:k≤3)(a b e f:Int) :
  EvQ Cx 47 [I8 k,I64 n,.agg [I8 a,I8 b,I8 e,I8 f]] (eD ⟨0,255,k,0,false,0,0,⟨a,b,e,f⟩⟩):=by
 have hV:=aJ4 (k:=k) n1 n4
 rw[if_pos (by omega)]at hV
 refine aX a8D rfl (by simp[aCK]) ?_
 simp(disch:=omega)only[go_sem,simprocAttr,QK.use hV]
end
end Go.Proofs.YtpdphobnchajbaaGreatDoor.Ev
