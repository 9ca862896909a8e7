/- check: locations; a thread. -/
import Derived.Test.YtpdphobnchajbaaGreatDoorQ20
import Derived.Test.YtpdphobnchajbaaGreatDoorQ21
set_option linter.unusedSimpArgs false
set_option linter.unusedVariables false
namespace Go.Proofs.YtpdphobnchajbaaGreatDoor.Ev
open Go Go.RowKit
set_option maxRecDepth 100000
set_option maxHeartbeats 16000000
theorem E3(l:List ByteArray):(l.map Sv).length=l.length:=List.length_map ..
theorem XN(l:List ByteArray)(hl:l.length≤140737488351232)(s:ByteArray):∃ n:Int,EvQ Cx 253 [.sl l.length (l.map Sv),Sv s] (I64 n):=by
 have:∃ y,EvQ Cx 253 [.sl l.length (l.map Sv),Sv s] y∧∃ n:Int,y=I64 n:=by
  refine cA aZi rfl (by simp[F7]) ?_
  have loop:∀(m i:Nat),i+m=l.length→bG Cx (.code (.loop UC)::.blk 0::.code (.seq (.reg [] [⟨some 4,.assign (.const (.int .i64 (-1))),none⟩] 0) .ret)::[]) ⟨[(0,.sl l.length (l.map Sv)),(1,Sv s),(7,I64 l.length),(8,I64 i)],[]⟩ (QM Cx.T .shut [.tmp 4] fun y=>∃ n:Int,y=I64 n):=by
   intro m
   induction m with
   |zero =>
    intro i hi
    rw[aA]
    simp(disch:=omega)only[go_sem,simprocAttr]
    exact⟨_,rfl⟩
   |succ m ih =>
    intro i hi
    obtain⟨x,hx⟩:∃ x,l[i]?=some x:=⟨_,List.getElem?_eq_getElem (by omega)⟩
    have hd:(l.map Sv).drop i=Sv x::(l.map Sv).drop (i+1):=by
     rw[List.drop_eq_getElem_cons (by rw[E3];omega)]
     congr 1
     rw[List.getElem_map]
     rw[(List.getElem?_eq_some_iff.1 hx).2]
    have hlen:=E3 l
    rw[aA]
    cases hb:(s.toList==x.toList)with
    |true =>
     simp(disch:=omega)only[go_sem,simprocAttr,hd,hb,Nat.mul_one]
     exact⟨_,rfl⟩
    |false =>
     simp(disch:=omega)only[go_sem,simprocAttr,hd,hb,Nat.mul_one]
     rw[aB (l:=[0,1,7,8]) rfl]
     simp(disch:=omega)only[go_sem,simprocAttr]
     have:=ih (i+1) (by omega)
     simpa only[Int.natCast_add,Int.natCast_one]using this
  simp(disch:=omega)only[go_sem,simprocAttr]
  rw[aB (l:=[0,1,7,8]) rfl]
  simp(disch:=omega)only[go_sem,simprocAttr]
  exact loop _ 0 (Nat.zero_add _)
 obtain⟨_,h,n,rfl⟩:=this
 exact⟨n,h⟩
theorem aCl(l:List ByteArray)(hl:l.length≤140737488351232)(s:ByteArray):∃ b,EvQ Cx 202 [.sl l.length (l.map Sv),Sv s] (Bo b):=by
 have:∃ y,EvQ Cx 202 [.sl l.length (l.map Sv),Sv s] y∧hJ y:=by
  obtain⟨n,hn⟩:=XN l hl s
  refine cA aP0 rfl (by simp[JV]) ?_
  simp(disch:=omega)only[go_sem,simprocAttr,QK.use hn]
  exact⟨_,rfl⟩
 obtain⟨_,h,b,rfl⟩:=this
 exact⟨b,h⟩
structure Pg where
 name:ByteArray
 locs:List ByteArray
 init:List Int
 threads:List (List Pl.Ins)
 ask:Int
 cond:Cd
def Pg.low(p:Pg):List A:=[Sv p.name,.sl p.locs.length (p.locs.map Sv),.sl p.init.length (p.init.map fun n=>I8 n),.sl p.threads.length (p.threads.map fun l=>eY l),I8 p.ask]
def cPg(p:Pg):List A:=p.low++cCd p.cond
structure Pg.Ok(p:Pg):Prop where
 locs:p.locs.length≤140737488351232
 init:p.init.length≤140737488351232
 inits:∀ n∈p.init,0≤n∧n<256
 threads:p.threads.length≤140737488351232
 thread:∀ l∈p.threads,l.length≤140737488351232∧∀ x∈l,x.Ok
 ask:0≤p.ask∧p.ask<256
 cond:nG p.cond
theorem jU(p:Pg):∃ a b c d e,cCd p.cond=[a,b,c,d,e]:=by
 cases h:p.cond
 rw[cCd]
 exact⟨_,_,_,_,_,rfl⟩
section
variable{H:aG}{pb:Nat}{p:Pg}(hp:H[pb]?=some (some ⟨29,cPg p,true⟩))(ok:p.Ok)
include hp ok in
theorem NI:∃ y,hJ y∧dI Cx 133 [.ptr pb 0] H y:=by
 obtain⟨c0,c1,c2,c3,c4,hc⟩:=jU p
 have hl:=ok.locs
 have hi:=ok.init
 unfold cPg Pg.low at hp
 rw[hc]at hp
 simp only[List.cons_append,List.nil_append]at hp
 generalize p.locs=ls at *
 have loop:∀(m i:Nat),i+m=ls.length→bG Cx (.code (.loop V8)::.blk 0::.code (.seq (.reg [] [⟨some 2,.assign (.const (.bool true)),none⟩] 0) .ret)::[]) ⟨[(0,.ptr pb 0),(35,.sl ls.length (ls.map Sv)),(36,I64 ls.length),(37,I64 i)],H⟩ (lB Cx [.tmp 2] fun y K=>hJ y∧∃ l,K=H++l):=by
  intro m
  induction m with
  |zero =>
   intro i hi
   rw[aA]
   simp(disch:=omega)only[go_sem,simprocAttr,aE]
   exact⟨⟨_,rfl⟩,[],(List.append_nil _).symm⟩
  |succ m ih =>
   intro i hi
   obtain⟨x,hx⟩:∃ x,ls[i]?=some x:=⟨_,List.getElem?_eq_getElem (by omega)⟩
   have hd:(ls.map Sv).drop i=Sv x::(ls.map Sv).drop (i+1):=by
    rw[List.drop_eq_getElem_cons (by rw[E3];omega)]
    congr 1
    rw[List.getElem_map]
    rw[(List.getElem?_eq_some_iff.1 hx).2]
   have hlen:=E3 ls
   have ht:(ls.map Sv).take i=(ls.take i).map Sv:=(List.map_take ..).symm
   have htl:(ls.take i).length=i:=by rw[List.length_take];omega
   obtain⟨b,hn⟩:=aLV x
   obtain⟨b',hcn⟩:=aCl (ls.take i) (by omega) x
   rw[htl]at hcn
   rw[aA]
   cases b with
   |false =>
    simp(disch:=omega)only[go_sem,simprocAttr,hd,QK.use hn,Nat.mul_one,aE]
    exact⟨⟨_,rfl⟩,[],(List.append_nil _).symm⟩
   |true =>
    cases b' with
    |true =>
     simp(disch:=omega)only[go_sem,simprocAttr,hp,hd,hlen,QK.use hn,ht,Nat.sub_zero,QK.use hcn,Nat.mul_one,aE]
     exact⟨⟨_,rfl⟩,[],(List.append_nil _).symm⟩
    |false =>
     simp(disch:=omega)only[go_sem,simprocAttr,hp,hd,hlen,QK.use hn,ht,Nat.sub_zero,QK.use hcn,Nat.mul_one]
     rw[aB (l:=[0,35,36,37]) rfl]
     simp(disch:=omega)only[go_sem,simprocAttr]
     have:=ih (i+1) (by omega)
     simpa only[Int.natCast_add,Int.natCast_one]using this
 refine dI.of ?_
 rw[aP a2i aUX];refine⟨by simp[GI],?_⟩
 by_cases q1:ls.length<1
 ·simp(disch:=omega)only[go_sem,simprocAttr,hp,aE]
  exact⟨⟨_,rfl⟩,[],(List.append_nil _).symm⟩
 by_cases q2:6<ls.length
 ·simp(disch:=omega)only[go_sem,simprocAttr,hp,aE]
  exact⟨⟨_,rfl⟩,[],(List.append_nil _).symm⟩
 by_cases q3:p.init.length=ls.length
 ·simp(disch:=omega)only[go_sem,simprocAttr,hp]
  rw[aB (l:=[0,35,36,37]) rfl]
  simp(disch:=omega)only[go_sem,simprocAttr]
  exact loop _ 0 (Nat.zero_add _)
 ·simp(disch:=omega)only[go_sem,simprocAttr,hp,aE]
  exact⟨⟨_,rfl⟩,[],(List.append_nil _).symm⟩
end
attribute [go_sem] maxLen Nat.sub_zero
theorem XB{l:List Pl.Ins}{i n k:Int}{x:Pl.Ins}{KK:List It}{Q:Ex→Ev.St→Prop}
  (hX:∀(e:Env) (K:aG),cI e 4=some (Bo false)→dN Cx .back KK ⟨e,K⟩ Q)
  (hE:∀(T:aG) (e:Env),dN Cx (.out 2) KK ⟨(35,Bo false)::(0,eY l)::(5,.ptr 0 0)::(6,.ref 2 0 8 1)::(17,eY l)::(18,I64 l.length)::(19,I64 i)::e,spB x n k::some ⟨369,[.ptr 0 0],true⟩::some ⟨63,[.clo 254 [] [.ptr 1 0],.clo 255 [] [.ptr 1 0],.clo 257 [] [.ptr 1 0],.clo 258 [] [.ptr 1 0],.clo 260 [] [.ptr 1 0],.clo 262 [.ptr 0 0] [],.clo 263 [.ptr 0 0] [],.clo 264 [] [.ptr 1 0]],true⟩::T⟩ Q) (T:aG) :
  bG Cx (.code (.loop U3)::KK) ⟨[(0,eY l),(5,.ptr 0 0),(6,.ref 2 0 8 1),(17,eY l),(18,I64 l.length),(19,I64 i),(32,.ref 2 0 8 1),(33,I64 8),(34,I64 0)],spB x n k::some ⟨369,[.ptr 0 0],true⟩::some ⟨63,[.clo 254 [] [.ptr 1 0],.clo 255 [] [.ptr 1 0],.clo 257 [] [.ptr 1 0],.clo 258 [] [.ptr 1 0],.clo 260 [] [.ptr 1 0],.clo 262 [.ptr 0 0] [],.clo 263 [.ptr 0 0] [],.clo 264 [] [.ptr 1 0]],true⟩::T⟩ Q:=by
 rw[aA]
 simp(disch:=omega)only[go_sem,simprocAttr]
 refine dI.use (cOp rfl rfl) fun t1=>?_
 by_cases h:1≤x.op∧x.op≤8
 case neg =>
  rw[decide_eq_false h]
  simp(disch:=omega)only[go_sem,simprocAttr]
  exact hX _ _ rfl
 obtain⟨h1,h8⟩:=h
 rw[decide_eq_true ⟨h1,h8⟩]
 simp(disch:=omega)only[go_sem,simprocAttr]
 rw[aB (l:=[0,5,6,17,18,19,32,33,34]) rfl];simp(disch:=omega)only[go_sem,simprocAttr]
 rw[aA]
 simp(disch:=omega)only[go_sem,simprocAttr]
 obtain⟨_,⟨b,rfl⟩,hc⟩:=bAN (x:=x) (n:=n) (k:=k) (H:=spB x n k::some ⟨369,[.ptr 0 0],true⟩::some ⟨63,[.clo 254 [] [.ptr 1 0],.clo 255 [] [.ptr 1 0],.clo 257 [] [.ptr 1 0],.clo 258 [] [.ptr 1 0],.clo 260 [] [.ptr 1 0],.clo 262 [.ptr 0 0] [],.clo 263 [.ptr 0 0] [],.clo 264 [] [.ptr 1 0]],true⟩::(T++t1)) (c:=1) (sb:=0) rfl rfl h1 h8
 refine dI.use hc fun t2=>?_
 cases b
 ·simp(disch:=omega)only[go_sem,simprocAttr]
  exact hX _ _ rfl
 simp(disch:=omega)only[go_sem,simprocAttr]
 rw[aB (l:=[0,5,6,17,18,19,32,33,34]) rfl];simp(disch:=omega)only[go_sem,simprocAttr]
 rw[aA]
 simp(disch:=omega)only[go_sem,simprocAttr]
 obtain⟨_,⟨b,rfl⟩,hc⟩:=bB0 (x:=x) (n:=n) (k:=k) (H:=spB x n k::some ⟨369,[.ptr 0 0],true⟩::some ⟨63,[.clo 254 [] [.ptr 1 0],.clo 255 [] [.ptr 1 0],.clo 257 [] [.ptr 1 0],.clo 258 [] [.ptr 1 0],.clo 260 [] [.ptr 1 0],.clo 262 [.ptr 0 0] [],.clo 263 [.ptr 0 0] [],.clo 264 [] [.ptr 1 0]],true⟩::(T++(t1++(t2)))) (c:=1) (sb:=0) rfl rfl
 refine dI.use hc fun t3=>?_
 cases b
 ·simp(disch:=omega)only[go_sem,simprocAttr]
  exact hX _ _ rfl
 simp(disch:=omega)only[go_sem,simprocAttr]
 rw[aB (l:=[0,5,6,17,18,19,32,33,34]) rfl];simp(disch:=omega)only[go_sem,simprocAttr]
 rw[aA]
 simp(disch:=omega)only[go_sem,simprocAttr]
 obtain⟨_,⟨b,rfl⟩,hc⟩:=bB3 (x:=x) (n:=n) (k:=k) (H:=spB x n k::some ⟨369,[.ptr 0 0],true⟩::some ⟨63,[.clo 254 [] [.ptr 1 0],.clo 255 [] [.ptr 1 0],.clo 257 [] [.ptr 1 0],.clo 258 [] [.ptr 1 0],.clo 260 [] [.ptr 1 0],.clo 262 [.ptr 0 0] [],.clo 263 [.ptr 0 0] [],.clo 264 [] [.ptr 1 0]],true⟩::(T++(t1++(t2++(t3))))) (c:=1) (sb:=0) rfl rfl h1 h8
 refine dI.use hc fun t4=>?_
 cases b
 ·simp(disch:=omega)only[go_sem,simprocAttr]
  exact hX _ _ rfl
 simp(disch:=omega)only[go_sem,simprocAttr]
 rw[aB (l:=[0,5,6,17,18,19,32,33,34]) rfl];simp(disch:=omega)only[go_sem,simprocAttr]
 rw[aA]
 simp(disch:=omega)only[go_sem,simprocAttr]
 obtain⟨_,⟨b,rfl⟩,hc⟩:=bC9 (x:=x) (n:=n) (k:=k) (H:=spB x n k::some ⟨369,[.ptr 0 0],true⟩::some ⟨63,[.clo 254 [] [.ptr 1 0],.clo 255 [] [.ptr 1 0],.clo 257 [] [.ptr 1 0],.clo 258 [] [.ptr 1 0],.clo 260 [] [.ptr 1 0],.clo 262 [.ptr 0 0] [],.clo 263 [.ptr 0 0] [],.clo 264 [] [.ptr 1 0]],true⟩::(T++(t1++(t2++(t3++(t4)))))) (c:=1) (sb:=0) rfl rfl
 refine dI.use hc fun t5=>?_
 cases b
 ·simp(disch:=omega)only[go_sem,simprocAttr]
  exact hX _ _ rfl
 simp(disch:=omega)only[go_sem,simprocAttr]
 rw[aB (l:=[0,5,6,17,18,19,32,33,34]) rfl];simp(disch:=omega)only[go_sem,simprocAttr]
 rw[aA]
 simp(disch:=omega)only[go_sem,simprocAttr]
 obtain⟨_,⟨b,rfl⟩,hc⟩:=a8e (x:=x) (n:=n) (k:=k) (H:=spB x n k::some ⟨369,[.ptr 0 0],true⟩::some ⟨63,[.clo 254 [] [.ptr 1 0],.clo 255 [] [.ptr 1 0],.clo 257 [] [.ptr 1 0],.clo 258 [] [.ptr 1 0],.clo 260 [] [.ptr 1 0],.clo 262 [.ptr 0 0] [],.clo 263 [.ptr 0 0] [],.clo 264 [] [.ptr 1 0]],true⟩::(T++(t1++(t2++(t3++(t4++(t5))))))) (sb:=0) rfl h1 h8
 refine dI.use hc fun t6=>?_
 cases b
 ·simp(disch:=omega)only[go_sem,simprocAttr]
  exact hX _ _ rfl
 simp(disch:=omega)only[go_sem,simprocAttr]
 rw[aB (l:=[0,5,6,17,18,19,32,33,34]) rfl];simp(disch:=omega)only[go_sem,simprocAttr]
 rw[aA]
 simp(disch:=omega)only[go_sem,simprocAttr]
 obtain⟨_,⟨b,rfl⟩,hc⟩:=cFn (x:=x) (n:=n) (k:=k) (H:=spB x n k::some ⟨369,[.ptr 0 0],true⟩::some ⟨63,[.clo 254 [] [.ptr 1 0],.clo 255 [] [.ptr 1 0],.clo 257 [] [.ptr 1 0],.clo 258 [] [.ptr 1 0],.clo 260 [] [.ptr 1 0],.clo 262 [.ptr 0 0] [],.clo 263 [.ptr 0 0] [],.clo 264 [] [.ptr 1 0]],true⟩::(T++(t1++(t2++(t3++(t4++(t5++(t6)))))))) (sb:=0) rfl h1 h8
 refine dI.use hc fun t7=>?_
 cases b
 ·simp(disch:=omega)only[go_sem,simprocAttr]
  exact hX _ _ rfl
 simp(disch:=omega)only[go_sem,simprocAttr]
 rw[aB (l:=[0,5,6,17,18,19,32,33,34]) rfl];simp(disch:=omega)only[go_sem,simprocAttr]
 rw[aA]
 simp(disch:=omega)only[go_sem,simprocAttr]
 obtain⟨_,⟨b,rfl⟩,hc⟩:=a4I (x:=x) (n:=n) (k:=k) (H:=spB x n k::some ⟨369,[.ptr 0 0],true⟩::some ⟨63,[.clo 254 [] [.ptr 1 0],.clo 255 [] [.ptr 1 0],.clo 257 [] [.ptr 1 0],.clo 258 [] [.ptr 1 0],.clo 260 [] [.ptr 1 0],.clo 262 [.ptr 0 0] [],.clo 263 [.ptr 0 0] [],.clo 264 [] [.ptr 1 0]],true⟩::(T++(t1++(t2++(t3++(t4++(t5++(t6++(t7))))))))) (c:=1) (sb:=0) rfl rfl h1 h8
 refine dI.use hc fun t8=>?_
 cases b
 ·simp(disch:=omega)only[go_sem,simprocAttr]
  exact hX _ _ rfl
 simp(disch:=omega)only[go_sem,simprocAttr]
 rw[aB (l:=[0,5,6,17,18,19,32,33,34]) rfl];simp(disch:=omega)only[go_sem,simprocAttr]
 rw[aA]
 simp(disch:=omega)only[go_sem,simprocAttr]
 exact hE _ _
theorem KN{l:List Pl.Ins}(hl:l.length≤140737488351232){n:Int}{KK:List It}{Q:Ex→Ev.St→Prop}
  (hX:∀(e:Env) (K:aG),cI e 4=some (Bo false)→dN Cx .back KK ⟨e,K⟩ Q)
  (hE:∀(e:Env) (K:aG),dN Cx (.out 0) KK ⟨e,K⟩ Q) :
  ∀(m i:Nat) (x:Pl.Ins) (k:Int) (T:aG),i+m=l.length→bG Cx (.code (.loop Q7)::KK) ⟨[(0,eY l),(5,.ptr 0 0),(6,.ref 2 0 8 1),(17,eY l),(18,I64 l.length),(19,I64 i)],spB x n k::some ⟨369,[.ptr 0 0],true⟩::some ⟨63,[.clo 254 [] [.ptr 1 0],.clo 255 [] [.ptr 1 0],.clo 257 [] [.ptr 1 0],.clo 258 [] [.ptr 1 0],.clo 260 [] [.ptr 1 0],.clo 262 [.ptr 0 0] [],.clo 263 [.ptr 0 0] [],.clo 264 [] [.ptr 1 0]],true⟩::T⟩ Q:=by
 intro m
 induction m with
 |zero =>
  intro i x k T hi
  rw[aA]
  simp(disch:=omega)only[go_sem,simprocAttr]
  exact hE _ _
 |succ m ih =>
  intro i x k T hi
  obtain⟨z,hz⟩:∃ z,l[i]?=some z:=⟨_,List.getElem?_eq_getElem (by omega)⟩
  have hd:=lW hz
  have hlen:=aEr l
  rw[aA]
  simp(disch:=omega)only[go_sem,simprocAttr,hd,spB,oR]
  rw[aB (l:=[0,5,6,17,18,19,32,33,34]) rfl]
  simp(disch:=omega)only[go_sem,simprocAttr]
  refine XB (x:=z) ?_ ?_ _
  ·intro e K h
   simp(disch:=omega)only[go_sem,simprocAttr]
   exact hX _ _ h
  ·intro T e
   simp(disch:=omega)only[go_sem,simprocAttr]
   rw[aB (l:=[0,5,6,17,18,19]) rfl]
   simp(disch:=omega)only[go_sem,simprocAttr]
   have:=ih (i+1) z ((l.length:Int)-1-i) T (by omega)
   simpa only[Int.natCast_add,Int.natCast_one]using this
theorem X9(l:List Pl.Ins)(hl:l.length≤140737488351232)(n:Int):∃ b,EvQ Cx 138 [eY l,I64 n] (Bo b):=by
 have:∃ y,EvQ Cx 138 [eY l,I64 n] y∧hJ y:=by
  refine cA aXf rfl (by simp[HD]) ?_
  by_cases h12:12<l.length
  ·simp(disch:=omega)only[go_sem,simprocAttr]
   exact⟨_,rfl⟩
  ·simp(disch:=omega)only[go_sem,simprocAttr,aK aWf a1X]
   rw[aB (l:=[0,5,6,17,18,19]) rfl]
   simp(disch:=omega)only[go_sem,simprocAttr]
   refine KN hl ?_ ?_ l.length 0 ⟨0,0,0,false,0,false,0,0,0,0⟩ 0 [] (Nat.zero_add _)
   ·intro e K h
    simp(disch:=omega)only[go_sem,simprocAttr,h]
    exact⟨_,rfl⟩
   ·intro e K
    simp(disch:=omega)only[go_sem,simprocAttr]
    exact⟨_,rfl⟩
 obtain⟨_,h,b,rfl⟩:=this
 exact⟨b,h⟩
theorem dI.useE{C:Ctx}{f:FuncId}{zs:List A}{dst:Option Nat}{ms:List MOp}{e:Env}{H:aG}{k:List It}{Q:Ex→Ev.St→Prop}(h:∃ y,hJ y∧dI C f zs H y)(hk:∀(b:Bool) (l:aG),iH C 0 ms ⟨put e dst (Bo b),H++l⟩ k Q):bB C f zs dst ms ⟨e,H⟩ k Q:=by
 obtain⟨_,⟨b,rfl⟩,h⟩:=h
 exact dI.use h (hk b)
theorem aEj(l:List Pl.Ins)(hl:l.length≤140737488351232):EvQ Cx 135 [eY l] (Bo (decide (l.length≤12))):=by
 refine aX a24 rfl (by simp[G0]) ?_
 by_cases h:l.length≤12
 ·rw[decide_eq_true h]
  simp(disch:=omega)only[go_sem,simprocAttr]
 ·rw[decide_eq_false h]
  simp(disch:=omega)only[go_sem,simprocAttr]
section
variable{H:aG}{p:Pg}{ty2:TypeId}(hp:H[0]?=some (some ⟨29,cPg p,true⟩))(ok:p.Ok)(hb1:H[1]?=some (some ⟨169,[.ptr 0 0],true⟩))(hb2:H[2]?=some (some ⟨ty2,[.clo 129 [] [.ptr 1 0]],true⟩))
include hp ok hb1 in
theorem aTr{l:List Pl.Ins}(hl:l.length≤140737488351232):∃ b,dI Cx 137 [eY l,.ptr 1 0] H (Bo b):=by
 have:∃ y,hJ y∧dI Cx 137 [eY l,.ptr 1 0] H y:=by
  obtain⟨c0,c1,c2,c3,c4,hc⟩:=jU p
  obtain⟨b,hb⟩:=X9 l hl p.locs.length
  have hl:=ok.locs
  unfold cPg Pg.low at hp
  rw[hc]at hp
  simp only[List.cons_append,List.nil_append]at hp
  refine dI.of ?_
  rw[aP aR1 aVd];refine⟨by simp[LF],?_⟩
  simp(disch:=omega)only[go_sem,simprocAttr,hb1,hp,QK.use hb,aE]
  exact⟨⟨_,rfl⟩,[],(List.append_nil _).symm⟩
 obtain⟨_,⟨b,rfl⟩,h⟩:=this
 exact⟨b,h⟩
include hp ok hb1 in
theorem LZ{y0:A}(hy:y0=.v (.func (.func 135) #[] #[])):∃ y,hJ y∧dI Cx 129 [y0,.ptr 1 0] H y:=by
 obtain⟨c0,c1,c2,c3,c4,hc⟩:=jU p
 have hl:=ok.threads
 have hth:=ok.thread
 unfold cPg Pg.low at hp
 rw[hc]at hp
 simp only[List.cons_append,List.nil_append]at hp
 generalize hts:p.threads=ts at *
 subst hy
 have loop:∀(m i:Nat) (T:aG),i+m=ts.length→bG Cx (.code (.loop FR)::.blk 0::.code (.seq (.reg [] [⟨some 3,.assign (.const (.bool true)),none⟩] 0) .ret)::[]) ⟨[(0,.v (.func (.func 135) #[] #[])),(9,.sl ts.length (ts.map fun l=>eY l)),(10,I64 ts.length),(11,I64 i)],H++T⟩ (lB Cx [.tmp 3] fun y K=>hJ y∧∃ l,K=H++l):=by
  intro m
  induction m with
  |zero =>
   intro i T hi
   rw[aA]
   simp(disch:=omega)only[go_sem,simprocAttr,aE]
   exact⟨⟨_,rfl⟩,T,rfl⟩
  |succ m ih =>
   intro i T hi
   obtain⟨x,hx⟩:∃ x,ts[i]?=some x:=⟨_,List.getElem?_eq_getElem (by omega)⟩
   obtain⟨hxl,hxo⟩:=hth x (List.mem_of_getElem? hx)
   have hlen:(ts.map fun l=>eY l).length=ts.length:=List.length_map ..
   have hd:(ts.map fun l=>eY l).drop i=eY x::(ts.map fun l=>eY l).drop (i+1):=by
    rw[List.drop_eq_getElem_cons (by rw[hlen];omega)]
    congr 1
    rw[List.getElem_map]
    rw[(List.getElem?_eq_some_iff.1 hx).2]
   have h7:=aEj x hxl
   rw[aA]
   cases hb:decide (x.length≤12)with
    |false =>
     rw[hb]at h7
     simp(disch:=omega)only[go_sem,simprocAttr,hd,QK.use h7,Nat.mul_one,aE]
     exact⟨⟨_,rfl⟩,T,rfl⟩
    |true =>
     rw[hb]at h7
     simp(disch:=omega)only[go_sem,simprocAttr,hd,QK.use h7,Nat.mul_one]
     rw[aB (l:=[0,9,10,11]) rfl]
     simp(disch:=omega)only[go_sem,simprocAttr]
     have:=ih (i+1) T (by omega)
     simpa only[Int.natCast_add,Int.natCast_one]using this
 refine dI.of ?_
 rw[aP aAW aAY];refine⟨by simp[BH],?_⟩
 simp(disch:=omega)only[go_sem,simprocAttr,hb1,hp]
 rw[aB (l:=[0,9,10,11]) rfl]
 simp(disch:=omega)only[go_sem,simprocAttr]
 have:=loop _ 0 [] (Nat.zero_add _)
 rw[List.append_nil]at this
 exact this
include hp ok hb1 in
theorem XG{y0:A}(hy:y0=.clo 137 [] [.ptr 1 0]):∃ y,hJ y∧dI Cx 129 [y0,.ptr 1 0] H y:=by
 obtain⟨c0,c1,c2,c3,c4,hc⟩:=jU p
 have hp0:=hp
 have hl:=ok.threads
 have hth:=ok.thread
 unfold cPg Pg.low at hp
 rw[hc]at hp
 simp only[List.cons_append,List.nil_append]at hp
 generalize hts:p.threads=ts at *
 subst hy
 have loop:∀(m i:Nat) (T:aG),i+m=ts.length→bG Cx (.code (.loop FR)::.blk 0::.code (.seq (.reg [] [⟨some 3,.assign (.const (.bool true)),none⟩] 0) .ret)::[]) ⟨[(0,.clo 137 [] [.ptr 1 0]),(9,.sl ts.length (ts.map fun l=>eY l)),(10,I64 ts.length),(11,I64 i)],H++T⟩ (lB Cx [.tmp 3] fun y K=>hJ y∧∃ l,K=H++l):=by
  intro m
  induction m with
  |zero =>
   intro i T hi
   rw[aA]
   simp(disch:=omega)only[go_sem,simprocAttr,aE]
   exact⟨⟨_,rfl⟩,T,rfl⟩
  |succ m ih =>
   intro i T hi
   obtain⟨x,hx⟩:∃ x,ts[i]?=some x:=⟨_,List.getElem?_eq_getElem (by omega)⟩
   obtain⟨hxl,hxo⟩:=hth x (List.mem_of_getElem? hx)
   have hlen:(ts.map fun l=>eY l).length=ts.length:=List.length_map ..
   have hd:(ts.map fun l=>eY l).drop i=eY x::(ts.map fun l=>eY l).drop (i+1):=by
    rw[List.drop_eq_getElem_cons (by rw[hlen];omega)]
    congr 1
    rw[List.getElem_map]
    rw[(List.getElem?_eq_some_iff.1 hx).2]
   obtain⟨b,h7⟩:=aTr (H:=H++T) (p:=p) (aI hp0 T) ok (aI hb1 T) hxl
   rw[aA]
   simp(disch:=omega)only[go_sem,simprocAttr,hd,Nat.mul_one]
   refine dI.use h7 fun t=>?_
   cases b with
    |false =>
     simp(disch:=omega)only[go_sem,simprocAttr,aE]
     exact⟨⟨_,rfl⟩,_,rfl⟩
    |true =>
     simp(disch:=omega)only[go_sem,simprocAttr]
     rw[aB (l:=[0,9,10,11]) rfl]
     simp(disch:=omega)only[go_sem,simprocAttr]
     have:=ih (i+1) (T++t) (by omega)
     simpa only[Int.natCast_add,Int.natCast_one,List.append_assoc]using this
 refine dI.of ?_
 rw[aP aAW aAY];refine⟨by simp[BH],?_⟩
 simp(disch:=omega)only[go_sem,simprocAttr,hb1,hp]
 rw[aB (l:=[0,9,10,11]) rfl]
 simp(disch:=omega)only[go_sem,simprocAttr]
 have:=loop _ 0 [] (Nat.zero_add _)
 rw[List.append_nil]at this
 exact this
include hp hb1 in
theorem a4r:∃ y,hJ y∧dI Cx 130 [.ptr 1 0] H y:=by
 obtain⟨c0,c1,c2,c3,c4,hc⟩:=jU p
 obtain⟨b,hb⟩:=ZF p.name
 unfold cPg Pg.low at hp
 rw[hc]at hp
 simp only[List.cons_append,List.nil_append]at hp
 refine dI.of ?_
 rw[aP aSj aZY];refine⟨by simp[KR],?_⟩
 simp(disch:=omega)only[go_sem,simprocAttr,hb1,hp,QK.use hb,aE]
 exact⟨⟨_,rfl⟩,[],(List.append_nil _).symm⟩
include hp ok hb1 in
theorem a7b:∃ y,hJ y∧dI Cx 132 [.ptr 1 0] H y:=by
 obtain⟨_,⟨b,rfl⟩,hb⟩:=NI hp ok
 refine dI.of ?_
 rw[aP aTg a26];refine⟨by simp[JJ],?_⟩
 simp(disch:=omega)only[go_sem,simprocAttr,hb1]
 refine dI.use hb fun t=>?_
 simp(disch:=omega)only[go_sem,simprocAttr,aE]
 exact⟨⟨_,rfl⟩,_,rfl⟩
include hp ok hb1 hb2 in
theorem aAe:∃ y,hJ y∧dI Cx 134 [.ptr 1 0,.ptr 2 0] H y:=by
 obtain⟨c0,c1,c2,c3,c4,hc⟩:=jU p
 obtain⟨_,⟨b,rfl⟩,hb⟩:=LZ hp ok hb1 rfl
 have ht:=ok.threads
 unfold cPg Pg.low at hp
 rw[hc]at hp
 simp only[List.cons_append,List.nil_append]at hp
 refine dI.of ?_
 rw[aP a2c aW7];refine⟨by simp[MY],?_⟩
 by_cases q1:1≤p.threads.length
 ·by_cases q2:p.threads.length≤4
  ·simp(disch:=omega)only[go_sem,simprocAttr,hb1,hb2,hp]
   refine dI.use hb fun t=>?_
   simp(disch:=omega)only[go_sem,simprocAttr,aE]
   exact⟨⟨_,rfl⟩,_,rfl⟩
  ·simp(disch:=omega)only[go_sem,simprocAttr,hb1,hp,aE]
   exact⟨⟨_,rfl⟩,[],(List.append_nil _).symm⟩
 ·simp(disch:=omega)only[go_sem,simprocAttr,hb1,hp,aE]
  exact⟨⟨_,rfl⟩,[],(List.append_nil _).symm⟩
include hp ok hb1 hb2 in
theorem bB1:∃ y,hJ y∧dI Cx 136 [.ptr 2 0,.ptr 1 0] H y:=by
 obtain⟨_,⟨b,rfl⟩,hb⟩:=XG hp ok hb1 rfl
 refine dI.of ?_
 rw[aP aQ5 aVJ];refine⟨by simp[J0],?_⟩
 simp(disch:=omega)only[go_sem,simprocAttr,hb2]
 refine dI.use hb fun t=>?_
 simp(disch:=omega)only[go_sem,simprocAttr,aE]
 exact⟨⟨_,rfl⟩,_,rfl⟩
include hp hb1 in
theorem bCb:∃ y,hJ y∧dI Cx 139 [.ptr 1 0] H y:=by
 obtain⟨c0,c1,c2,c3,c4,hc⟩:=jU p
 unfold cPg Pg.low at hp
 rw[hc]at hp
 simp only[List.cons_append,List.nil_append]at hp
 refine dI.of ?_
 rw[aP aO5 aZq];refine⟨by simp[G1],?_⟩
 by_cases q1:p.ask=1
 ·simp(disch:=omega)only[go_sem,simprocAttr,hb1,hp,aE]
  exact⟨⟨_,rfl⟩,[],(List.append_nil _).symm⟩
 by_cases q2:p.ask=2
 ·simp(disch:=omega)only[go_sem,simprocAttr,hb1,hp,aE]
  exact⟨⟨_,rfl⟩,[],(List.append_nil _).symm⟩
 simp(disch:=omega)only[go_sem,simprocAttr,hb1,hp,aE]
 exact⟨⟨_,rfl⟩,[],(List.append_nil _).symm⟩
include hp ok hb1 in
theorem a9h:∃ y,hJ y∧dI Cx 140 [.ptr 1 0] H y:=by
 obtain⟨b,hb⟩:=aJh p.cond p.threads.length p.locs.length ok.cond
 unfold cPg Pg.low at hp
 cases hcd:p.cond with
 |mk k t n v l =>
 rw[hcd]at hb hp
 rw[cCd]at hb hp
 simp only[List.cons_append,List.nil_append]at hp
 refine dI.of ?_
 rw[aP aVn aSQ];refine⟨by simp[IK],?_⟩
 simp(disch:=omega)only[go_sem,simprocAttr,hb1,hp,QK.use hb,aE]
 exact⟨⟨_,rfl⟩,[],(List.append_nil _).symm⟩
end
theorem aD1(p:Pg)(ok:p.Ok):∃ n:Int,EvQ Cx 33 [.agg (cPg p)] (I64 n):=by
 have:∃ y,EvQ Cx 33 [.agg (cPg p)] y∧∃ n:Int,y=I64 n:=by
  obtain⟨c0,c1,c2,c3,c4,hc⟩:=jU p
  have hP:cPg p=[Sv p.name,.sl p.locs.length (p.locs.map Sv),.sl p.init.length (p.init.map fun n=>I8 n),.sl p.threads.length (p.threads.map fun l=>eY l),I8 p.ask,c0,c1,c2,c3,c4]:=by
   unfold cPg Pg.low
   rw[hc]
   rfl
  have h0:dE (cPg p)=true:=by
   rw[hP]
   cases h:p.cond
   rw[h,cCd]at hc
   cases hc
   rfl
  refine cA a4E rfl (by simp[aCJ]) ?_
  simp(disch:=omega)only[go_sem,simprocAttr,aK bAm bAY,h0]
  rw[aB (l:=[5,6,7]) rfl]
  simp(disch:=omega)only[go_sem,simprocAttr]
  rw[aA]
  simp(disch:=omega)only[go_sem,simprocAttr]
  refine dI.useE (a4r (p:=p) rfl rfl) fun b t=>?_
  cases b
  ·simp(disch:=omega)only[go_sem,simprocAttr]
   exact⟨_,rfl⟩
  simp(disch:=omega)only[go_sem,simprocAttr]
  rw[aB (l:=[5,6,7]) rfl]
  simp(disch:=omega)only[go_sem,simprocAttr]
  rw[aA]
  simp(disch:=omega)only[go_sem,simprocAttr]
  refine dI.useE (a7b (p:=p) rfl ok rfl) fun b t=>?_
  cases b
  ·simp(disch:=omega)only[go_sem,simprocAttr]
   exact⟨_,rfl⟩
  simp(disch:=omega)only[go_sem,simprocAttr]
  rw[aB (l:=[5,6,7]) rfl]
  simp(disch:=omega)only[go_sem,simprocAttr]
  rw[aA]
  simp(disch:=omega)only[go_sem,simprocAttr]
  refine dI.useE (aAe (p:=p) rfl ok rfl rfl) fun b t=>?_
  cases b
  ·simp(disch:=omega)only[go_sem,simprocAttr]
   exact⟨_,rfl⟩
  simp(disch:=omega)only[go_sem,simprocAttr]
  rw[aB (l:=[5,6,7]) rfl]
  simp(disch:=omega)only[go_sem,simprocAttr]
  rw[aA]
  simp(disch:=omega)only[go_sem,simprocAttr]
  refine dI.useE (bB1 (p:=p) rfl ok rfl rfl) fun b t=>?_
  cases b
  ·simp(disch:=omega)only[go_sem,simprocAttr]
   exact⟨_,rfl⟩
  simp(disch:=omega)only[go_sem,simprocAttr]
  rw[aB (l:=[5,6,7]) rfl]
  simp(disch:=omega)only[go_sem,simprocAttr]
  rw[aA]
  simp(disch:=omega)only[go_sem,simprocAttr]
  refine dI.useE (bCb (p:=p) rfl rfl) fun b t=>?_
  cases b
  ·simp(disch:=omega)only[go_sem,simprocAttr]
   exact⟨_,rfl⟩
  simp(disch:=omega)only[go_sem,simprocAttr]
  rw[aB (l:=[5,6,7]) rfl]
  simp(disch:=omega)only[go_sem,simprocAttr]
  rw[aA]
  simp(disch:=omega)only[go_sem,simprocAttr]
  refine dI.useE (a9h (p:=p) rfl ok rfl) fun b t=>?_
  cases b
  ·simp(disch:=omega)only[go_sem,simprocAttr]
   exact⟨_,rfl⟩
  simp(disch:=omega)only[go_sem,simprocAttr]
  rw[aB (l:=[5,6,7]) rfl]
  simp(disch:=omega)only[go_sem,simprocAttr]
  rw[aA]
  simp(disch:=omega)only[go_sem,simprocAttr]
  exact⟨_,rfl⟩
 obtain⟨_,h,n,rfl⟩:=this
 exact⟨n,h⟩
end Go.Proofs.YtpdphobnchajbaaGreatDoor.Ev
