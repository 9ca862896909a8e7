/- sys.own: rows of its own. -/
import Derived.Test.YtpdphobnchajbaaGreatDoorQ45
import Derived.Test.YtpdphobnchajbaaGreatDoorQ14
set_option linter.unusedSimpArgs false
set_option linter.unusedVariables false
namespace Go.Proofs.YtpdphobnchajbaaGreatDoor.Ev
open Go Go.RowKit
set_option maxRecDepth 100000
set_option maxHeartbeats 16000000
theorem IM{l:List (Int×Int)}(hl:l.length≤255):EvQ Cx 73 [gI l] (gI l):=by
 cases l with
 |nil =>
  exact xP rfl
 |cons x l =>
  have e1:=c7 (x::l)
  have e2:=cB (x::l)
  have e3:=dH (x::l)
  have e4:∀ H n,bQ (freeze H (n+1)) (dR (x::l))=some (dR (x::l)):=fun H n=>eG (x::l)
  have e5:=cG (x::l)
  show EvQ Cx 73 [.sl (x::l).length (dR (x::l))] (.sl (x::l).length (dR (x::l)))
  generalize dR (x::l)=cs at *
  rw[List.length_cons]at *
  generalize l.length=k at *
  refine aX bAa ?_ (by simp[BE]) ?_
  ·rfl
  ·simp(disch:=omega)only[go_sem,simprocAttr,nO,pC,e1,e2,e3,e4,e5,maxLen]
theorem YG{l:List Mg}(hl:l.length≤255):EvQ Cx 75 [.sl l.length (cells cM l)] (.sl l.length (cells cM l)):=by
 cases l with
 |nil =>
  exact xP rfl
 |cons x l =>
  have e1:=cY (x::l)
  have e2:=dG (x::l)
  have e3:=rI (x::l)
  have e4:∀ H n,bQ (freeze H (n+1)) (cells cM (x::l))=some (cells cM (x::l)):=fun H n=>jI H n (x::l)
  have e5:=mI (x::l)
  generalize cells cM (x::l)=cs at *
  rw[List.length_cons]at *
  generalize l.length=k at *
  refine aX a4x ?_ (by simp[A9]) ?_
  ·rfl
  ·simp(disch:=omega)only[go_sem,simprocAttr,nO,pC,e1,e2,e3,e4,e5,maxLen]
theorem WN:∀ l:List Pl.Core,dE (cells cK l)=true
 |[]=>rfl
 |x::l=>by
  simp only[cells,List.cons_append,List.nil_append,dE,one,Bool.true_and,WN l]
theorem RT:∀ l:List Ca,dE (cells cC l)=true
 |[]=>rfl
 |x::l=>by
  rw[cells]
  exact fC _ _ (rK x) (RT l)
theorem QF{l:List Pl.Core}(h0:0<l.length)(h4:l.length≤4){H:aG}:bW Cx 72 [.sl l.length (cells cK l)] H fun y K=>y=.ref (H.length+1) 0 l.length 12∧K=H++[none,some ⟨99,cells cK l,false⟩]:=by
 have e1:=vH l
 have e2:(cells cK l).take (l.length*12)=cells cK l:=List.take_of_length_le (by omega)
 have e5:=WN l
 generalize cells cK l=cs at *
 generalize l.length=k at *
 obtain⟨k,rfl⟩:∃ j,k=j+1:=⟨k-1,by omega⟩
 rw[aP a7F a8H];refine⟨by simp[aAX],?_⟩
 simp(disch:=omega)only[go_sem,simprocAttr,nO,pC,e1,e5,maxLen,aE]
theorem LQ{l:List Ca}(h0:0<l.length)(h4:l.length≤4){H:aG}:bW Cx 74 [.sl l.length (cells cC l)] H fun y K=>y=.ref (H.length+1) 0 l.length 160∧K=H++[none,some ⟨123,cells cC l,false⟩]:=by
 have e1:=xK l
 have e2:(cells cC l).take (l.length*160)=cells cC l:=List.take_of_length_le (by omega)
 have e5:=RT l
 generalize cells cC l=cs at *
 generalize l.length=k at *
 obtain⟨k,rfl⟩:∃ j,k=j+1:=⟨k-1,by omega⟩
 rw[aP a85 a8C];refine⟨by simp[ZZ],?_⟩
 simp(disch:=omega)only[go_sem,simprocAttr,nO,pC,e1,e5,maxLen,List.flatten_cons,List.flatten_nil,aE]
section
variable{s:Sy}
theorem aBg{K:aG}{DD:List A}{b b2 jc:Nat}(hb0:K[b]?=some (some ⟨58,.ref jc 0 s.cores.length 12::DD,true⟩))(hj:K[jc]?=some (some ⟨99,cells cK s.cores,false⟩))(c4:s.cores.length≤4)(hb:∀ c∈s.cores,c.buf.length≤255){KK:List It}{Q:Ex→Ev.St→Prop}(hE:dN Cx (.out 0) KK ⟨[(12,Bo false),(1,.ptr b 0),(2,.ptr b2 0),(10,I64 s.cores.length),(11,I64 s.cores.length)],K⟩ Q) :
  ∀(d i:Nat),i+d=s.cores.length→bG Cx (.code (.loop aB9)::KK) ⟨[(1,.ptr b 0),(2,.ptr b2 0),(10,I64 s.cores.length),(11,I64 i)],K⟩ Q:=by
 intro d
 induction d with
 |zero =>
  intro i hi
  obtain rfl:i=s.cores.length:=by omega
  rw[aA]
  simp(disch:=omega)only[go_sem,simprocAttr,Int.lt_irrefl]
  exact hE
 |succ d ih =>
  intro i hi
  obtain⟨c,hc⟩:∃ c,s.cores[i]?=some c:=⟨_,List.getElem?_eq_getElem (by omega)⟩
  obtain⟨rr,hr⟩:=c8 (c:=cK) (n:=12) (fun _=>rfl) hc
  have hC:=IM (hb c (List.mem_of_getElem? hc))
  have e1:=vH s.cores
  have hr9:List.drop (i*12+9) (cells cK s.cores)=gI c.buf::Bo c.waits::Bo c.drain::rr:=by
   rw[← List.drop_drop,hr]
   rfl
  have nx:=ih (i+1) (by omega)
  rw[Int.natCast_add,Int.natCast_one]at nx
  rw[aA]
  have hset:K.set jc (some ⟨99,List.take (i*12+9) (cells cK s.cores)++gI c.buf::List.drop (i*12+9+1) (cells cK s.cores),false⟩)=K:=by
   have e:List.take (i*12+9) (cells cK s.cores)++gI c.buf::List.drop (i*12+9+1) (cells cK s.cores)=cells cK s.cores:=by
    rw[← List.drop_drop (i:=1),hr9]
    conv=>rhs;rw[← List.take_append_drop (i*12+9) (cells cK s.cores),hr9]
    rfl
   rw[e]
   exact uB hj
  simp(disch:=omega)only[go_sem,simprocAttr,hb0,hj,hr9,e1,QK.use hC,hset]
  rw[aB (l:=[1,2,10,11]) rfl]
  simp(disch:=omega)only[go_sem,simprocAttr]
  exact nx
theorem a0o(hs:s.Raw)(c0:0<s.cores.length)(c4:s.cores.length≤4)(k0:0<s.caches.length)(k4:s.caches.length≤4)(n64:s.net.length≤64)(hb:∀ c∈s.cores,c.buf.length≤255){H:aG} :
  bW Cx 36 [.agg (cSy s)] H fun y K=>∃ l jc jk,K=H++l∧y=.agg (iB (.ref jc 0 s.cores.length 12) (.ref jk 0 s.caches.length 160) s (.sl s.net.length (cells cM s.net)))∧K[jc]?=some (some ⟨99,cells cK s.cores,false⟩)∧K[jk]?=some (some ⟨123,cells cC s.caches,false⟩):=by
 have h2:∃ DR,(∀ vc vk,iB vc vk s (.sl s.net.length (cells cM s.net))=vc::vk::DR)∧DR.length=67∧dE DR=true∧List.drop 66 DR=[.sl s.net.length (cells cM s.net)]∧List.take 66 DR++[.sl s.net.length (cells cM s.net)]=DR :=
  ⟨s.dirs++[.sl s.net.length (cells cM s.net)],fun _ _=>rfl,rfl,fC _ _ (sX s) rfl,rfl,rfl⟩
 obtain⟨DR,h2,d1,d2,d3,d4⟩:=h2
 have e0:cSy s=.sl s.cores.length (cells cK s.cores)::.sl s.caches.length (cells cC s.caches)::DR:=h2 _ _
 have tD:List.take 67 DR=DR:=List.take_of_length_le (by omega)
 have d5:List.drop 67 DR=[]:=List.drop_eq_nil_of_le (by omega)
 have hC:=YG (l:=s.net) (by omega)
 rw[e0]
 simp only[h2]
 rw[aP a44 a6d];refine⟨by simp[aFb],?_⟩
 simp(disch:=omega)only[go_sem,simprocAttr,d1,d2]
 refine aM (QF c0 c4) ?_
 rintro y K ⟨rfl,rfl⟩
 simp(disch:=omega)only[go_sem,simprocAttr,d1]
 rw[aB (l:=[1,2,10,11]) rfl]
 simp(disch:=omega)only[go_sem,simprocAttr]
 refine aBg (jc:=H.length+2+1) (aZ H _ 0) (aZ H _ 3) c4 hb ?_ s.cores.length 0 (by omega)
 simp(disch:=omega)only[go_sem,simprocAttr,d1]
 refine aM (LQ k0 k4) ?_
 rintro y K ⟨rfl,rfl⟩
 simp(disch:=omega)only[go_sem,simprocAttr,d1,d2,d3,d4,d5,tD,List.append_nil,QK.use hC,aE]
 exact⟨_,_,_,rfl,rfl,aZ H _ 3,aZ H _ 5⟩
end
end Go.Proofs.YtpdphobnchajbaaGreatDoor.Ev
namespace Go.Proofs.YtpdphobnchajbaaGreatDoor.Ev
open Go Go.RowKit
set_option maxRecDepth 100000
set_option maxHeartbeats 16000000
def zSy:Sy:=⟨[],[],fun _=>⟨0,0,0,0,false,0,0,⟨0,0,0,0⟩⟩,[]⟩
theorem a6n{w:Wo}{vc vk vn vm vd:A}{s:Sy}(ok:w.T.Ok):List.drop 585 (eQ w vc vk s vn vm vd)=iB vc vk s vn++[vm,vd]:=by
 obtain⟨c0,c1,c2,c3,c4,e⟩:=lU w vc vk s vn vm vd
 have hl:=d7 ok
 rw[e,show(585:Nat)=20+565 from rfl,← List.drop_drop]
 show List.drop 565 (cT9 w.T++_)=_
 rw[List.drop_left' hl]
 unfold iB
 simp only[List.cons_append,List.append_assoc,List.nil_append]
theorem xL{α:Type}{f:α→A}(h:∀ x,eqA (f x) (f x)=true):∀ l:List α,eqL (l.map f) (l.map f)=true
 |[]=>rfl
 |x::l=>by
  rw[List.map_cons,eqL,h x,xL h l]
  rfl
theorem yE(x:ByteArray):(x==x)=true:=by
 show ByteArray.beq _ _=true
 unfold ByteArray.beq
 simp
theorem a0G(x:ByteArray):eqA (Sv x) (Sv x)=true:=by simp[eqA,eqV,yE]
theorem aKY(l:List Pl.Ins):eqA (eY l) (eY l)=true:=by
 have h:eqL (u2 l) (u2 l)=true:=by
  induction l with
  |nil=>rfl
  |cons x l ih =>
   show eqL (oR x++u2 l) (oR x++u2 l)=true
   exact mL (by simp[oR,eqL,eqA,eqV]) ih
 simp[eqA,h]
mutual
theorem TV:∀ x:Cd,eqL (cCd x) (cCd x)=true
 |.mk k t n v l=>by
  rw[cCd]
  simp[eqL,eqA,eqV,HX l]
theorem HX:∀ l:List Cd,eqL (eP l) (eP l)=true
 |[]=>by rw[eP];rfl
 |x::l=>by
  rw[eP]
  exact mL (TV x) (HX l)
end
theorem aUP(w:Wo):eqL (cW w) (cW w)=true:=by
 have e1:=xL (f:=Sv) a0G w.P.locs
 have e2:=xL (f:=fun n:Int=>I8 n) (fun n=>by simp[eqA,eqV]) w.P.init
 have e3:=xL (f:=fun l=>eY l) aKY w.P.threads
 have e4:=TV w.P.cond
 have e5:eqL (cT9 w.T) (cT9 w.T)=true:=by
  unfold cT9
  rw[eqL,Bool.and_eq_true]
  exact⟨by simp[eqA,eqV,yE],mL (vX (fun x=>by simp[eqL,eqA,eqV]) _) (vX (fun x=>by simp[eqL,eqA,eqV]) _)⟩
 unfold cW cPg Pg.low Wo.gr
 refine mL ?_ (mL ?_ e5)
 ·refine mL ?_ e4
  simp[eqL,eqA,eqV,yE,e1,e2,e3]
 ·simp[eqL,eqA,eqV]
theorem aOo:∀ l:List Pl.Core,(cells cK l).all vs=true
 |[]=>rfl
 |x::l=>by
  simp only[cells,List.cons_append,List.nil_append,List.all_cons,vs,Bool.true_and,aOo l]
theorem aA5:∀ l:List Ca,(cells cC l).all vs=true
 |[]=>rfl
 |x::l=>by
  rw[cells,List.all_append,aA5 l,Bool.and_true]
  unfold cC
  rfl
theorem TN:∀ l:List Pf,(cells cP l).all vs=true
 |[]=>rfl
 |x::l=>by
  simp only[cells,List.cons_append,List.nil_append,List.all_cons,vs,Bool.true_and,TN l]
theorem jQ:∀{a b:List A},fA a=a→fA b=b→fA (a++b)=a++b
 |[],b,_,h=>h
 |x::a,b,h,h'=>by
  rw[fA,List.cons.injEq]at h
  rw[List.cons_append,fA,h.1,jQ h.2 h']
theorem aER:∀ l:List Pl.Core,fA (cells cK l)=cells cK l
 |[]=>rfl
 |x::l=>by
  simp only[cells,List.cons_append,List.nil_append,fA,nrm,dH,aER l]
theorem QP:∀ l:List Ca,fA (cells cC l)=cells cC l
 |[]=>rfl
 |x::l=>by
  rw[cells]
  refine jQ ?_ (QP l)
  unfold cC
  rfl
theorem P9:∀ l:List Pf,fA (cells cP l)=cells cP l
 |[]=>rfl
 |x::l=>by
  simp only[cells,List.cons_append,List.nil_append,fA,nrm,P9 l]
theorem aCc(s:Sy):fA s.dirs=s.dirs:=rfl
theorem U2(s:Sy):fA (cSy s)=cSy s:=by
 unfold cSy iB
 simp only[fA,nrm,aER,QP]
 rw[jQ (aCc s) (by simp only[fA,nrm,rI])]
theorem T5{H:aG}{el:TypeId}{sz n:Nat}{α:Type}{c:α→List A}{v:A}{l:List α}(h:lO true el sz c H v l)(hl:(cells c l).length=l.length*sz)(hv:(cells c l).all vs=true):freeze H (n+2) v=some (.sl l.length (cells c l)):=by
 obtain⟨j,rfl,h2⟩:=h
 rw[zJ,h2]
 simp only[List.drop_zero,Nat.zero_add,hl,Nat.le_refl,if_true]
 rw[← hl,List.take_length,eK H n _ hv]
 rfl
theorem MT{H:aG}{el:TypeId}{sz:Nat}{α:Type}{c:α→List A}{v:A}{l:List α}(h:lO true el sz c H v l){b:Nat}{e:TypeId}{cs:List A}{q:Bool}(hb:H[b]?=some (some ⟨e,cs,q⟩))(hn:Nat.beq e el=false)(X:Option Blk):lO true el sz c (H.set b X) v l:=by
 obtain⟨j,h1,h2⟩:=h
 exact⟨j,h1,aO h2 (bO hb h2 hn) X⟩
theorem ZX{H:aG}{v:A}{l:List Pf}(h:AP H v l){b:Nat}{e:TypeId}{cs:List A}{q:Bool}(hb:H[b]?=some (some ⟨e,cs,q⟩))(hn:Nat.beq e 211=false)(X:Option Blk):AP (H.set b X) v l:=by
 rcases h with h|⟨j,h0,h1,h2⟩
 ·exact .inl h
 ·exact .inr ⟨j,h0,h1,aO h2 (bO hb h2 hn) X⟩
theorem LX{H:aG}{el:TypeId}{sz:Nat}{α:Type}{c:α→List A}{v:A}{l:List α}(h:lO true el sz c H v l):one v=true:=by
 obtain⟨j,rfl,-⟩:=h
 rfl
theorem aMG{H:aG}{v:A}{l:List Pf}(h:AP H v l):eqA v v=true∧one v=true:=by
 rcases h with⟨-,rfl⟩|⟨j,h0,rfl,h2⟩
 ·exact⟨rfl,rfl⟩
 ·exact⟨by simp[eqA],rfl⟩
theorem aW8{H:aG}{vc vk:A}{s:Sy}(h1:lO true 99 12 cK H vc s.cores)(h2:lO true 123 160 cC H vk s.caches):bQ (freeze H 18) (iB vc vk s (.sl s.net.length (cells cM s.net)))=some (cSy s):=by
 have e3:bQ (freeze H 18) (s.dirs++[.sl s.net.length (cells cM s.net)])=some (s.dirs++[.sl s.net.length (cells cM s.net)]):=eK H 17 _ (by rw[List.all_append];rfl)
 unfold iB
 rw[cV,cV,e3,T5 (n:=16) h1 (vH _) (aOo _),T5 (n:=16) h2 (xK _) (aA5 _)]
 rfl
theorem aHK{H:aG}{vd:A}{l:List Pf}(h:AP H vd l):∃ D,freeze H 19 vd=some D∧nrm D=.sl l.length (cells cP l):=by
 rcases h with⟨rfl,rfl⟩|⟨j,h0,rfl,h2⟩
 ·exact⟨_,qY,rfl⟩
 ·refine⟨.sl l.length (cells cP l),?_,by simp only[nrm,P9]⟩
  have hl:(cells cP l).length=l.length*7:=eE cP 7 (fun _=>rfl) l
  rw[zJ,h2]
  simp only[List.drop_zero,Nat.zero_add,hl,Nat.le_refl,if_true]
  rw[← hl,List.take_length,eK H 17 _ (TN l)]
  rfl
theorem cl3{vc vk vn:A}{s:Sy}:(iB vc vk s vn).length=69:=rfl
section
variable{w:Wo}{s:Sy}{n:Nat}
theorem a4Z(W:w.Run n)(hs:s.Raw)(ts:s.Typ n)(n1:0<n)(hnl:s.net.length≤64)(hR:EvQ Cx 9 [.agg (cW w)] (Bo true))(hF:EvQ Cx 10 [.agg (cW w),.agg (cSy s)] (Bo true)){E:Sp→Int}(hE:∀ x:Sp,x.Ok→∀ [Kst] {ow:Bool} {rb mb:Nat} {vc vk vd:A} {H:aG},Rn ow w s rb mb vc vk vd [] H→bW Cx 31 [.ptr rb 0,eS x] H (pF w n rb mb ow (E x) H)){x:Sp}(xo:x.Ok) :
  ∃ y,EvQ Cx 11 [.agg (cW w),.agg (cSy s),eS x] y∧∃ s' D e,y=.tup [.agg (cSy s'),D,I64 e]∧(e=0→s'.Typ n∧s'.net.length≤64)∧(e≠0→s'=zSy)∧(E x≠0→e=E x)∧(E x=0→e=0∨e=4)∧∃ d:List Pf,D=.sl d.length (cells cP d)∧d.length≤500:=by
 have h1:=iP w
 have hlen:=iO W.ok
 have z1:∀ H,bQ (freeze H 19) (cW w)=some (cW w):=fun H=>eK H 18 _ (gY w)
 have z2:=dJ _ (gY w)
 have z3:∀ H,bQ (freeze H 19) (cSy s)=some (cSy s):=fun H=>eK H 18 _ (gO s)
 have z4:=dJ _ (gO s)
 have o2:=@fJ s
 have l2:=@fQ s
 have tw:List.take 585 (cW w)=cW w:=List.take_of_length_le (by omega)
 have tS:List.take 69 (cSy s)=cSy s:=List.take_of_length_le (by omega)
 have n4:=W.n4
 have hO:∀{H:aG},_:=fun {H:aG}=>a0o hs (by rw[ts.lc];exact n1) (by rw[ts.lc];exact n4) (by rw[ts.lk];exact n1) (by rw[ts.lk];exact n4) hnl (fun c hc=>(ts.core c hc).2) (H:=H)
 have hb:∀{H:aG} (vc vk:A),one vc=true→one vk=true→_:=fun {H:aG} vc vk o1 o2=>IH (s:=s) (vc:=vc) (vk:=vk) W.ok o1 o2 (H:=H)
 have eW:=aUP w
 generalize hW:cW w=WW at *
 generalize hS:cSy s=SS at *
 refine cA a9l rfl (by simp[aAK]) ?_
 simp(disch:=omega)only[go_sem,simprocAttr,h1,hlen,z1,z2,z3,z4,o2,l2,tw,tS,QK.use hR,QK.use hF]
 refine⟨eW,aM hO ?_⟩
 rintro y K ⟨l,jc,jk,rfl,rfl,hjc,hjk⟩
 simp(disch:=omega)only[go_sem,simprocAttr,hlen,tw,eW]
 refine aM (hb _ _ rfl rfl) ?_
 rintro y K ⟨l2',rb,mb,rfl,rfl,hr,hm⟩
 letI:Kst:=⟨3,iB (.v (.slice none 0 0)) (.v (.slice none 0 0)) zSy (.v (.slice none 0 0))⟩
 have R:=Rn.mk (ow:=true) (done:=[]) hr hm ⟨jc,rfl,aI hjc l2'⟩ ⟨jk,rfl,aI hjk l2'⟩ (.inl ⟨rfl,rfl⟩) rfl
 simp(disch:=omega)only[go_sem,simprocAttr]
 refine aM (hE x xo R) ?_
 rintro y K ⟨f,L,rfl,rfl,hA⟩
 by_cases q:E x=0
 case neg =>
  simp(disch:=omega)only[go_sem,simprocAttr]
  exact⟨zSy,_,E x,rfl,fun h=>absurd h q,fun _=>rfl,fun _=>rfl,fun h=>absurd h q,[],rfl,by simp⟩
 have hA:=hA q rfl
 rw[q]
 obtain⟨fid,caps,rfl,hC⟩:=hA []
 simp only[List.append_nil,List.append_assoc,List.cons_append]at hC
 simp(disch:=omega)only[go_sem,simprocAttr,C7]
 refine aM hC ?_
 rintro y K ⟨s',vc',vk',vd',done,R',ts',dok,dl⟩
 have wT:=W.ok.T
 have Hb:=R'.at_
 have kq:=R'.kq
 change K[3]?=some (some ⟨58,iB (.v (.slice none 0 0)) (.v (.slice none 0 0)) zSy (.v (.slice none 0 0)),true⟩)at kq
 have nb:rb≠3:=bO Hb kq rfl
 have s0:∀ X,(K.set 3 X)[3]?=some X:=fun X=>bU kq X
 have ln:=ts'.ln
 by_cases q5:s'.net.length≤64
 case neg =>
  simp(disch:=omega)only[go_sem,simprocAttr,Hb,pI wT,kq,s0,cl3]
  refine⟨zSy,_,4,rfl,?_,?_,?_,?_,[],rfl,?_⟩<;>simp
 have gR:∀ X,(K.set 3 X)[rb]?=_:=fun X=>aO Hb (Ne.symm nb) X
 have o3:dE (iB vc' vk' s' (.sl s'.net.length (cells cM s'.net)))=true:=by
  unfold iB
  simp only[dE,LX R'.rc,LX R'.rk,Bool.true_and]
  exact fC _ _ (sX s') rfl
 have fS:∀ X,bQ (freeze (K.set 3 X) 18) (iB vc' vk' s' (.sl s'.net.length (cells cM s'.net)))=some (cSy s'):=fun X=>aW8 (MT R'.rc kq rfl X) (MT R'.rk kq rfl X)
 have nS:=U2 s'
 obtain⟨D,hD,nD⟩:∃ D,(∀ X,freeze (K.set 3 X) 19 vd'=some D)∧nrm D=.sl done.length (cells cP done):=by
  obtain⟨D,hD,hn⟩:=aHK (ZX R'.dn kq rfl none)
  refine⟨D,fun X=>?_,hn⟩
  rcases R'.dn with⟨-,rfl⟩|⟨j,h0,rfl,h2⟩
  ·rw[qY]at hD ⊢
   exact hD
  ·have e1:=fun X=>aO h2 (bO kq h2 rfl) X
   rw[zJ,e1]at hD ⊢
   simp only[List.drop_zero]at hD ⊢
   rw[eK _ 17 _ (by rw[List.all_eq_true];exact fun a h=>List.all_eq_true.1 (TN done) a (List.mem_of_mem_take h))]at hD ⊢
   exact hD
 obtain⟨eD,oD⟩:=aMG R'.dn
 have tk:∀ X,List.take 69 (iB vc' vk' s' (.sl s'.net.length (cells cM s'.net))++X)=iB vc' vk' s' (.sl s'.net.length (cells cM s'.net)):=fun X=>List.take_left' rfl
 have tk0:List.take 69 (iB vc' vk' s' (.sl s'.net.length (cells cM s'.net)))=iB vc' vk' s' (.sl s'.net.length (cells cM s'.net)):=rfl
 simp(disch:=omega)only[go_sem,simprocAttr,Hb,a6n wT,pI wT,lH wT,kq,s0,cl3,gR,o3,tk,fS,hD,eD,nS,nD]
 exact⟨s',_,0,rfl,fun _=>⟨ts',q5⟩,fun h=>absurd rfl h,fun h=>h.elim,fun _=>.inl rfl,done,rfl,dl⟩
end
end Go.Proofs.YtpdphobnchajbaaGreatDoor.Ev
namespace Go.Proofs.YtpdphobnchajbaaGreatDoor.Ev
open Go Go.RowKit
set_option maxRecDepth 100000
set_option maxHeartbeats 16000000
structure Tra where
 steps:List Sp
 last:Sy
 perfs:List Pf
 err:Int
def GrV{α:Type}(el:TypeId)(sz:Nat)(c:α→List A)(H:aG)(v:A)(l:List α):Prop:=(l=[]∧v=.v (.slice none 0 0))∨∃ j,l≠[]∧v=.ref j 0 l.length sz∧H[j]?=some (some ⟨el,cells c l,false⟩)
def O6(vs:A)(SS:List A)(vp:A)(e:Int)(WW:List A):List A:=vs::(SS++vp::I64 e::WW)
structure Rc(w:Wo)(b:Nat)(t:Tra)(H:aG):Prop where
 at_:∃ vs vp,H[b]?=some (some ⟨134,O6 vs (cSy t.last) vp t.err (cW w),true⟩)∧GrV 62 14 cS H vs t.steps∧GrV 211 7 cP H vp t.perfs
def Ks(H K:aG):Prop:=∀(i:Nat) (e:TypeId) (cs:List A) (q:Bool),H[i]?=some (some ⟨e,cs,q⟩)→(List.all [134,62,211] fun t=>!Nat.beq e t)=true→K[i]?=some (some ⟨e,cs,q⟩)
theorem Ks.refl(H:aG):Ks H H:=fun _ _ _ _ h _=>h
theorem Ks.trans{H K L:aG}(a:Ks H K)(b:Ks K L):Ks H L:=fun i e cs q h k=>b i e cs q (a i e cs q h k) k
theorem Ks.app{H K:aG}(a:Ks H K)(l:aG):Ks H (K++l):=fun i e cs q h k=>aI (a i e cs q h k) l
theorem Ks.set{H K:aG}(a:Ks H K){b e':Nat}{cs':List A}{q':Bool}(hb:K[b]?=some (some ⟨e',cs',q'⟩))(he:e'=134∨e'=62∨e'=211)(X:Option Blk):Ks H (K.set b X):=fun i e cs q h k=>by
 have h1:=a i e cs q h k
 simp only[List.all_cons,List.all_nil,Bool.and_true,Bool.and_eq_true,Bool.not_eq_true']at k
 rcases he with rfl|rfl|rfl
 ·exact aO h1 (bO h1 hb k.1).symm X
 ·exact aO h1 (bO h1 hb k.2.1).symm X
 ·exact aO h1 (bO h1 hb k.2.2).symm X
section
variable{w:Wo}{b:Nat}{t:Tra}{H:aG}
theorem GrV.app{α:Type}{el:TypeId}{sz:Nat}{c:α→List A}{v:A}{l:List α}(h:GrV el sz c H v l)(T:aG):GrV el sz c (H++T) v l:=by
 rcases h with h|⟨j,h0,h1,h2⟩
 ·exact .inl h
 ·exact .inr ⟨j,h0,h1,aI h2 T⟩
theorem GrV.set{α:Type}{el:TypeId}{sz:Nat}{c:α→List A}{v:A}{l:List α}(h:GrV el sz c H v l){b:Nat}{e:TypeId}{cs:List A}{q:Bool}(hb:H[b]?=some (some ⟨e,cs,q⟩))(hn:Nat.beq e el=false)(X:Option Blk):GrV el sz c (H.set b X) v l:=by
 rcases h with h|⟨j,h0,h1,h2⟩
 ·exact .inl h
 ·exact .inr ⟨j,h0,h1,aO h2 (bO hb h2 hn) X⟩
theorem tL:∀ l:List Pf,dE (cells cP l)=true
 |[]=>rfl
 |p::l=>by
  rw[cells]
  exact fC _ _ rfl (tL l)
def Tra.next(t:Tra)(x:Sp)(s':Sy)(d:List Pf)(e:Int):Tra:=if e=0 then⟨t.steps++[x],s',t.perfs++d,t.err⟩else⟨t.steps++[x],t.last,t.perfs,e⟩
theorem aGb(wo:w.Ok)(R:Rc w b t H)(hsl:t.steps.length≤10000)(hpl:t.perfs.length≤1000000){x:Sp}{s':Sy}{d:List Pf}(hdl:d.length≤1000){e:Int}(hD:EvQ Cx 11 [.agg (cW w),.agg (cSy t.last),eS x] (.tup [.agg (cSy s'),.sl d.length (cells cP d),I64 e])) :
  bW Cx 41 [.ptr b 0,eS x] H fun y K=>y=Bo (decide (e=0))∧Rc w b (t.next x s' d e) K∧Ks H K:=by
 obtain⟨vs,vp,Hb,hs,hp⟩:=R.at_
 have o2:=@fJ t.last
 have l2:=@fQ t.last
 have l3:=@fQ s'
 have o3:=@fJ s'
 have h1:=iP w
 have hlen:=iO wo
 have z1:∀ H,bQ (freeze H 19) (cW w)=some (cW w):=fun H=>eK H 18 _ (gY w)
 have z2:=dJ _ (gY w)
 have z3:∀ H,bQ (freeze H 19) (cSy t.last)=some (cSy t.last):=fun H=>eK H 18 _ (gO t.last)
 have z4:=dJ _ (gO t.last)
 unfold O6 at Hb
 generalize hS:cSy t.last=SS at *
 generalize hS':cSy s'=TT at *
 generalize hW:cW w=WW at *
 have tw:List.take 585 WW=WW:=List.take_of_length_le (by omega)
 have tT:List.take 69 TT=TT:=List.take_of_length_le (by omega)
 have e1:∀ X:List A,List.take 69 (SS++X)=SS:=fun X=>List.take_left' l2
 have f1:∀ X:List A,List.take 69 (TT++X)=TT:=fun X=>List.take_left' l3
 have f2:∀ X:List A,List.drop 69 (TT++X)=X:=fun X=>List.drop_left' l3
 have f3:∀(a:A) (X:List A),List.drop 70 (TT++a::X)=X:=fun a X=>by
  rw[show(70:Nat)=69+1 from rfl,← List.drop_drop,f2];rfl
 have e2:∀ X:List A,List.drop 69 (SS++X)=X:=fun X=>List.drop_left' l2
 have e3:∀(a:A) (X:List A),List.drop 70 (SS++a::X)=X:=fun a X=>by
  rw[show(70:Nat)=69+1 from rfl,← List.drop_drop,e2];rfl
 have e4:∀(a c:A) (X:List A),List.drop 71 (SS++a::c::X)=X:=fun a c X=>by
  rw[show(71:Nat)=69+2 from rfl,← List.drop_drop,e2];rfl
 have e5:∀(a:A) (X:List A),List.take 70 (SS++a::X)=SS++[a]:=fun a X=>by
  rw[List.take_append,List.take_of_length_le (by omega),l2];rfl
 have hbH:b<H.length:=(List.getElem?_eq_some_iff.1 Hb).1
 have hlo:=fun l=>aI Hb l
 have hsa:∀ X l,(H.set b X++l)[b]?=some X:=fun X l=>aI (bU Hb X) l
 have hsb:∀(X Y:Option Blk) (l:aG),(H.set b X++l).set b Y=H.set b Y++l:=fun X Y l=>by
  rw[List.set_append_left _ _ (by rw[List.length_set];exact hbH),set_set]
 have ks:∀ X l,Ks H (H.set b X++l):=fun X l=>((Ks.refl H).set Hb (.inl rfl) X).app l
 have hbH2:∀ X:Option Blk,b<(H.set b X).length:=fun X=>by rw[List.length_set];exact hbH
 have pe:∀ l,GrV 211 7 cP (H++l) vp t.perfs:=fun l=>hp.app l
 rw[aP a9U a4X];refine⟨by simp[aCw],?_⟩
 refine(fun(tail:∀(K:aG) (n5:Nat) (vs:A),K[b]?=some (some ⟨134,vs::(SS++vp::I64 t.err::WW),true⟩)→K[n5]?=some (some ⟨58,TT,true⟩)→GrV 62 14 cS K vs (t.steps++[x])→GrV 211 7 cP K vp t.perfs→Ks H K→(?P:aG→Nat→Prop) K n5)=>?main) ?tp
 case main =>
  rcases hs with⟨s0,rfl⟩|⟨j,s0,rfl,hj⟩
  ·have k1:=fun X l=>d8 H l b X 1
   have k2:=fun X l=>d8 H l b X 2
   simp(disch:=omega)only[go_sem,simprocAttr,hlo,l2,l3,o3,hlen,z1,z2,z3,z4,tw,e1,e4,QK.use hD]
   generalize hK:(_++_:aG)=K
   generalize hn:List.length H+1=n5
   refine tail K n5 _ (by rw[← hK];exact hsa _ _) (by rw[← hK,← hn];exact k1 _ _) (.inr ⟨H.length+2,by simp,by rw[s0];rfl,by rw[← hK,k2,s0];rfl⟩) (by rw[← hK];exact(hp.set Hb rfl _).app _) (by rw[← hK];exact ks _ _)
  ·have hjH:j<H.length:=(List.getElem?_eq_some_iff.1 hj).1
   have hjb:j≠b:=bO hj Hb rfl
   have hjo:=fun l=>aI hj l
   have hb1:=fun l=>aI (aO Hb hjb none) l
   have hbj:b<(H.set j none).length:=by rw[List.length_set];exact hbH
   have hb2:=fun X l=>aI (bU (aO Hb hjb none) X) l
   have k1:=fun X l=>d8 (H.set j none) l b X 1
   have k2:=fun X l=>d8 (H.set j none) l b X 2
   simp only[List.length_set]at k1 k2
   simp(disch:=omega)only[go_sem,simprocAttr,hlo,l2,l3,o3,hlen,z1,z2,z3,z4,tw,e1,e4,rS,FF,QK.use hD,hjo,hb1]
   generalize hK:(_++_:aG)=K
   generalize hn:List.length H+1=n5
   refine tail K n5 _ (by rw[← hK];exact hb2 _ _) (by rw[← hK,← hn];exact k1 _ _) (.inr ⟨H.length+2,by simp,by simp,by rw[← hK,k2,dP];rfl⟩) (by rw[← hK];exact((hp.set hj rfl none).set (aO Hb hjb none) rfl _).app _) (by rw[← hK];exact(((Ks.refl H).set hj (.inr (.inl rfl)) none).set (aO Hb hjb none) (.inl rfl) _).app _)
 case tp =>
  intro K n5 vs Kb K5 gs gp kk
  have Kl:b<K.length:=(List.getElem?_eq_some_iff.1 Kb).1
  have K5b:n5≠b:=bO K5 Kb rfl
  have Kt:=fun X=>bU Kb X
  by_cases q:e=0
  ·subst q
   have nx:t.next x s' d 0=⟨t.steps++[x],s',t.perfs++d,t.err⟩:=if_pos rfl
   rw[nx]
   rcases gp with⟨p0,rfl⟩|⟨i,p0,rfl,hi⟩
   ·by_cases qd:d=[]
    ·subst qd
     simp(disch:=omega)only[go_sem,simprocAttr,l2,l3,o3,hlen,tT,e2,f1,f2,f3,iE,tL,Kb,Kt,K5,set_set,aE]
     refine⟨⟨⟨_,_,by rw[hS',hW];exact Kt _,gs.set Kb rfl _,.inl ⟨by simp[p0],rfl⟩⟩⟩,kk.set Kb (.inl rfl) _⟩
    ·have qd':¬ d.length=0:=fun h=>qd (List.eq_nil_of_length_eq_zero h)
     have Ka:=fun X l=>aI (Kt X) l
     have Km:∀(X Y:Option Blk) (l:aG),(K.set b X++l).set b Y=K.set b Y++l:=fun X Y l=>by
      rw[List.set_append_left _ _ (by rw[List.length_set];exact Kl),set_set]
     simp(disch:=omega)only[go_sem,simprocAttr,l2,l3,o3,hlen,tT,e2,f1,f2,f3,iE,tL,Kb,Kt,Ka,K5,Km,qd',aE]
     refine⟨⟨⟨_,_,by rw[hS',hW];exact Ka _ _,(gs.set Kb rfl _).app _,.inr ⟨K.length,by simp[qd],by simp[p0],by rw[UY,p0];rfl⟩⟩⟩,(kk.set Kb (.inl rfl) _).app _⟩
   ·have hib:i≠b:=bO hi Kb rfl
    have hi2:=fun X=>aO hi hib.symm X
    have Ki:i<K.length:=(List.getElem?_eq_some_iff.1 hi).1
    have Km:∀(X Y:Option Blk) (l:aG),((K.set b X).set i none++l).set b Y=((K.set b X).set i none).set b Y++l:=fun X Y l=>List.set_append_left _ _ (by rw[List.length_set,List.length_set];exact Kl)
    have Ku:=fun X=>aO (Kt X) hib none
    have Ka:=fun X l=>aI (Ku X) l
    have Kz:=fun X Y l=>aI (bU (Ku X) Y) l
    simp(disch:=omega)only[go_sem,simprocAttr,l2,l3,o3,hlen,tT,e2,f1,f2,f3,iE,jA,tL,Kb,Kt,Ka,K5,Km,hi2,aE]
    refine⟨⟨⟨_,_,by rw[hS',hW];exact Kz _ _ _,(((gs.set Kb rfl _).set (hi2 _) rfl none).set (Ku _) rfl _).app _,.inr ⟨K.length,by simp[p0],by simp,by rw[List.getElem?_append_right (by simp)];simp[dP]⟩⟩⟩,(((kk.set Kb (.inl rfl) _).set (hi2 _) (.inr (.inr rfl)) none).set (Ku _) (.inl rfl) _).app _⟩
  ·have nx:t.next x s' d e=⟨t.steps++[x],t.last,t.perfs,e⟩:=if_neg q
   rw[nx]
   simp(disch:=omega)only[go_sem,simprocAttr,l2,hlen,e4,e5,Kb,eH q,aE]
   refine⟨⟨⟨_,_,by rw[hS,hW];exact Kt _,gs.set Kb rfl _,gp.set Kb rfl _⟩⟩,kk.set Kb (.inl rfl) _⟩
end
theorem w15(w:Wo):List.drop 15 (cW w)=I8 w.net::I8 w.view::I8 w.repl::I64 w.buf::Bo w.evict::List.drop 20 (cW w):=by
 obtain⟨c0,c1,c2,c3,c4,hc⟩:=jU w.P
 unfold cW cPg Pg.low Wo.gr
 rw[hc]
 rfl
theorem w2(w:Wo):List.drop 2 (cW w)=.sl w.P.init.length (w.P.init.map fun n=>I8 n)::List.drop 3 (cW w):=by
 obtain⟨c0,c1,c2,c3,c4,hc⟩:=jU w.P
 unfold cW cPg Pg.low Wo.gr
 rw[hc]
 rfl
theorem w16(w:Wo):List.drop 16 (cW w)=I8 w.view::List.drop 17 (cW w):=by
 rw[show(16:Nat)=15+1 from rfl,← List.drop_drop,w15]
 show _=_::List.drop (15+2) (cW w)
 rw[← List.drop_drop,w15]
 rfl
theorem w17(w:Wo):List.drop 17 (cW w)=I8 w.repl::List.drop 18 (cW w):=by
 rw[show(17:Nat)=15+2 from rfl,← List.drop_drop,w15]
 show _=_::List.drop (15+3) (cW w)
 rw[← List.drop_drop,w15]
 rfl
theorem OM:EvQ Cx 42 [] (.agg (cK ⟨0,fun _=>0,[],false,false⟩)):=by
 refine aX bBz rfl (by simp[aBE]) ?_
 simp(disch:=omega)only[go_sem,simprocAttr]
 rfl
section
variable{w:Wo}
theorem aAu(wo:w.Ok)(hR:EvQ Cx 9 [.agg (cW w)] (Bo false)):EvQ Cx 17 [.agg (cW w)] (.tup [.agg (cSy zSy),I64 310]):=by
 have h1:=iP w
 have hlen:=iO wo
 have z1:∀ H,bQ (freeze H 19) (cW w)=some (cW w):=fun H=>eK H 18 _ (gY w)
 have z2:=dJ _ (gY w)
 have tw:List.take 585 (cW w)=cW w:=List.take_of_length_le (by omega)
 generalize cW w=WW at *
 refine aX aOs rfl (by simp[YE]) ?_
 simp(disch:=omega)only[go_sem,simprocAttr,h1,hlen,z1,z2,tw,QK.use hR]
 rfl
theorem ZC{WW SZ SY:List A}{T:aG}{g:List Int}(hg:∀ x∈g,0≤x∧x<256)(gl:g.length≤140737488351232){c h o s y:Int}(w2:List.drop 2 WW=.sl g.length (g.map fun n=>I8 n)::List.drop 3 WW)(w10:List.drop 10 WW=I64 c::I64 h::I64 o::I64 s::I64 y::List.drop 15 WW)(hk:OkG c h o s y)(hlen:WW.length=585){v:A}{L:List Nat}(hL6:∀ i∈L,i<6)(hLn:L.length≤6)(hv:L=[]∧v=.v (.slice none 0 0)∨v=.sl L.length (L.map fun i:Nat=>I8 i)){x39 x40:A}{i:Nat}{KK:List It}{Q:Ex→Ev.St→Prop}
  (hE:∀ d:D4,d.Ok→dN Cx (.out 4) KK ⟨[(49,Bo false),(1,.ptr 0 0),(2,.ptr 1 0),(4,.ptr 2 0),(5,I8 i),(6,.ptr (T.length+1+1+1) 0),(39,x39),(40,x40),(46,v),(47,I64 L.length),(48,I64 L.length)],some ⟨44,WW,true⟩::some ⟨58,SZ,true⟩::some ⟨58,SY,true⟩::(T++[some ⟨52,cD4 d,true⟩])⟩ Q) :
  ∀(m j:Nat) (d:D4),j+m=L.length→d.Ok→bG Cx (.code (.loop aBR)::KK) ⟨[(1,.ptr 0 0),(2,.ptr 1 0),(4,.ptr 2 0),(5,I8 i),(6,.ptr (T.length+1+1+1) 0),(39,x39),(40,x40),(46,v),(47,I64 L.length),(48,I64 j)],some ⟨44,WW,true⟩::some ⟨58,SZ,true⟩::some ⟨58,SY,true⟩::(T++[some ⟨52,cD4 d,true⟩])⟩ Q:=by
 intro m
 induction m with
 |zero =>
  intro j d hj hd
  obtain rfl:j=L.length:=by omega
  rw[aA]
  simp(disch:=omega)only[go_sem,simprocAttr,Int.lt_irrefl]
  exact hE d hd
 |succ m ih =>
  intro j d hj hd
  rcases hv with⟨rfl,rfl⟩|rfl
  ·simp at hj
  obtain⟨l,hl⟩:∃ l,L[j]?=some l:=⟨_,List.getElem?_eq_getElem (by omega)⟩
  have l6:=hL6 l (List.mem_of_getElem? hl)
  have hdl:List.drop j (L.map fun i:Nat=>I8 i)=I8 l::List.drop (j+1) (L.map fun i:Nat=>I8 i):=eJ (by rw[List.getElem?_map,hl];rfl)
  have nx:=fun d=>ih (j+1) d (by omega)
  simp only[Int.natCast_add,Int.natCast_one]at nx
  rw[aA]
  by_cases q:l<g.length
  ·obtain⟨x,hx⟩:∃ x,g[l]?=some x:=⟨_,List.getElem?_eq_getElem q⟩
   have xo:=hg x (List.mem_of_getElem? hx)
   have hdg:List.drop l (g.map fun n=>I8 n)=I8 x::List.drop (l+1) (g.map fun n=>I8 n):=eJ (by rw[List.getElem?_map,hx];rfl)
   have hP:=a9p hk d (l:=l) (by omega) (by omega) x
   have hdo:=hd.to ((l:Int) % o) xo
   generalize d.to ((l:Int) % o) x=d' at hP hdo
   simp(disch:=omega)only[go_sem,simprocAttr,w2,w10,hdl,hdg,Nat.mul_one,QK.use hP]
   rw[aB (l:=[1,2,4,5,6,39,40,46,47,48]) rfl]
   simp(disch:=omega)only[go_sem,simprocAttr]
   exact nx d' hdo
  ·simp(disch:=omega)only[go_sem,simprocAttr,w2,hdl,Nat.mul_one]
   rw[aB (l:=[1,2,4,5,6,39,40,46,47,48]) rfl]
   simp(disch:=omega)only[go_sem,simprocAttr]
   exact nx d hd
theorem aMD{vc vk:A}{X:List A}(f:Nat→Dr){i:Nat}(hi:i<6)(d:Dr):List.take (2+i*11) (vc::vk::((Sy.mk [] [] f []).dirs++X))++(cD d++List.drop (2+i*11+11) (vc::vk::((Sy.mk [] [] f []).dirs++X)))=vc::vk::((Sy.mk [] [] (xB f i d) []).dirs++X):=by
 have hd:(Sy.mk [] [] f []).dirs.length=66:=rfl
 rw[show 2+i*11+11=(i*11+11)+1+1 by omega,show 2+i*11=i*11+1+1 by omega]
 simp only[List.take_succ_cons,List.drop_succ_cons,List.cons_append]
 rw[List.take_append_of_le_length (by omega),List.drop_append_of_le_length (by omega)]
 have e:=jK (c:=cD) (n:=11) (fun _=>rfl) d (l:=[f 0,f 1,f 2,f 3,f 4,f 5]) (i:=i) (by simpa using hi)
 have e2:cells cD ([f 0,f 1,f 2,f 3,f 4,f 5].set i d)=(Sy.mk [] [] (xB f i d) []).dirs:=by
  obtain rfl|rfl|rfl|rfl|rfl|rfl:i=0∨i=1∨i=2∨i=3∨i=4∨i=5:=by omega
  all_goals rfl
 rw[e2]at e
 rw[← e]
 unfold Sy.dirs
 simp only[List.append_assoc,List.cons_append,List.nil_append]
theorem OT{WW SZ:List A}{vc vk:A}{g:List Int}(hg:∀ x∈g,0≤x∧x<256)(gl:g.length≤140737488351232){n:Nat}{h o s y vw:Int}(w2:List.drop 2 WW=.sl g.length (g.map fun n=>I8 n)::List.drop 3 WW)(w10:List.drop 10 WW=I64 n::I64 h::I64 o::I64 s::I64 y::List.drop 15 WW)(w16:List.drop 16 WW=I8 vw::List.drop 17 WW)
  (hk:OkG n h o s y) (v1:1≤vw) (v3:vw≤3) (hlen:WW.length=585) {P:aG→Prop} (hP:∀ T x,P T→P (T++[x])) {KK:List It} {Q:Ex→Ev.St→Prop}
  (hE:∀(f:Nat→Dr) (T:aG),P T→(∀ i,i<6→(f i).Ok)→dN Cx (.out 2) KK ⟨[(41,Bo false),(1,.ptr 0 0),(2,.ptr 1 0),(4,.ptr 2 0),(39,I8 (5/o+1)),(40,I8 (5/o+1))],some ⟨44,WW,true⟩::some ⟨58,SZ,true⟩::some ⟨58,vc::vk::((Sy.mk [] [] f []).dirs++[.v (.slice none 0 0)]),true⟩::T⟩ Q) :
  ∀(m i:Nat) (f:Nat→Dr) (T:aG),P T→(∀ i,i<6→(f i).Ok)→((i+m:Nat):Int)=5/o+1→bG Cx (.code (.loop aC4)::KK) ⟨[(1,.ptr 0 0),(2,.ptr 1 0),(4,.ptr 2 0),(39,I8 (5/o+1)),(40,I8 i)],some ⟨44,WW,true⟩::some ⟨58,SZ,true⟩::some ⟨58,vc::vk::((Sy.mk [] [] f []).dirs++[.v (.slice none 0 0)]),true⟩::T⟩ Q:=by
 have n1:1≤n:=by have:=hk.1;omega
 have n4:n≤4:=by have:=hk.2.1;omega
 have hH:=fun a b e f=>aLK n1 n4 v1 v3 a b e f
 intro m
 induction m with
 |zero =>
  intro i f T hT hf hi
  rw[Nat.add_zero]at hi
  rw[aA]
  simp(disch:=omega)only[go_sem,simprocAttr,Int.lt_irrefl,hi]
  exact hE f T hT hf
 |succ m ih =>
  intro i f T hT hf hi
  have o1:5/o≤5:=Int.ediv_le_self _ (by omega)
  have i6:i<6:=by omega
  obtain⟨v,hL,L,hL6,hLn,hv⟩:=aIu hk i6
  have hlt:(i:Int)<5/o+1:=by omega
  have hD:=fun(SY:List A) (KK:List It) (Q:Ex→Ev.St→Prop)=>ZC (SZ:=SZ) (SY:=SY) (T:=T) hg gl w2 w10 hk hlen hL6 hLn hv (x39:=I8 (5/o+1)) (x40:=I8 i) (i:=i) (KK:=KK) (Q:=Q)
  have pd:=aMD (vc:=vc) (vk:=vk) (X:=[.v (.slice none 0 0)]) f i6
  have lS:(vc::vk::((Sy.mk [] [] f []).dirs++[.v (.slice none 0 0)]):List A).length=69:=rfl
  generalize (vc::vk::((Sy.mk [] [] f []).dirs++[.v (.slice none 0 0)]):List A)=SY at pd lS ⊢
  have nx:=fun d T=>ih (i+1) (xB f i d) T
  simp only[Int.natCast_add,Int.natCast_one]at nx
  rw[aA]
  rcases hv with⟨rfl,rfl⟩|rfl
  all_goals
   simp(disch:=omega)only[go_sem,simprocAttr,w10,QK.use hL]
   rw[aB (l:=[1,2,4,5,6,39,40,46,47,48]) rfl]
   simp(disch:=omega)only[go_sem,simprocAttr]
   refine hD _ _ _ (fun d hd=>?_) _ 0 ⟨0,0,0,0⟩ (Nat.zero_add _) ⟨by simp,by simp,by simp,by simp⟩
   have pd':List.take (2+i*11) SY++I8 0::I8 255::I8 vw::W64 0::Bo false::I8 0::I8 0::I8 d.a::I8 d.b::I8 d.c::I8 d.d::List.drop (2+i*11+11) SY=_:=pd ⟨0,255,vw,0,false,0,0,d⟩
   simp(disch:=omega)only[go_sem,simprocAttr,w10,w16,lS,pd',QK.use (hH _ _ _ _)]
   rw[aB (l:=[1,2,4,39,40]) rfl]
   simp(disch:=omega)only[go_sem,simprocAttr]
   refine nx ⟨0,255,vw,0,false,0,0,d⟩ _ (hP _ _ hT) (fun j hj=>?_) (by omega)
   unfold xB
   split
   ·exact⟨by simp,by simp,by simp only;omega,by simp,by simp,by simp,hd⟩
   ·exact hf j hj
theorem aIy{n:Nat}(W:w.Run n)(hR:EvQ Cx 9 [.agg (cW w)] (Bo true)):∃ y,EvQ Cx 17 [.agg (cW w)] y∧∃ s0:Sy,y=.tup [.agg (cSy s0),I64 0]∧s0.Typ n∧s0.net=[]:=by
 have wo:=W.ok
 have good:=W.good
 obtain⟨x,hC,xo,-⟩:=aJA good.geo good.repl.1 good.repl.2
 have hL:=u7 good.geo
 have hk:=good.geo
 have h1:=iP w
 have hlen:=iO wo
 have z1:∀ H,bQ (freeze H 19) (cW w)=some (cW w):=fun H=>eK H 18 _ (gY w)
 have z2:=dJ _ (gY w)
 have tw:List.take 585 (cW w)=cW w:=List.take_of_length_le (by omega)
 have w2:=w2 w
 have w10:=w10 w
 have w16:=w16 w
 have w17:=w17 w
 have hn:=W.n
 have o1:5/w.o≤5:=Int.ediv_le_self _ (by omega)
 have o0:0≤5/w.o:=Int.ediv_nonneg (by omega) (by have:=hk.2.2.2.2.1;omega)
 have n1:1≤n:=by have:=hk.1;omega
 have n4:=W.n4
 rw[← hn]at w10 hk hC hL
 have hnc:=OM
 have hvs:(cC x).all vs=true:=by
  have:=aA5 [x]
  rwa [cells,cells,List.append_nil]at this
 have hnx:fA (cC x)=cC x:=by
  have:=QP [x]
  rwa [cells,cells,List.append_nil]at this
 have c0o:(Pl.Core.mk 0 (fun _=>0) [] false false).Ok∧([]:List (Int×Int)).length≤255:=⟨⟨by show Pl.u8 0;unfold Pl.u8;omega,fun _=>by unfold Pl.u8;simp,by simp⟩,by simp⟩
 have hta:∀ k,List.take 160 (cC k)=cC k:=fun k=>List.take_of_length_le (by rw[aY];omega)
 have hW:∀{P:aG→Prop} (hP:∀ T x,P T→P (T++[x])) (SZ:List A) (vc vk:A) (KK:List It) (Q:Ex→Ev.St→Prop),_:=fun {P} hP SZ vc vk KK Q=>OT (SZ:=SZ) (vc:=vc) (vk:=vk) wo.P.inits wo.P.init w2 w10 w16 hk good.view.1 good.view.2 hlen hP (KK:=KK) (Q:=Q)
 have t2:List.take 320 (cC x++cC x)=cC x++cC x:=List.take_of_length_le (by simp only[List.length_append,aY];omega)
 have t3:List.take 480 (cC x++(cC x++cC x))=cC x++(cC x++cC x):=List.take_of_length_le (by simp only[List.length_append,aY];omega)
 have t4:List.take 640 (cC x++(cC x++(cC x++cC x)))=cC x++(cC x++(cC x++cC x)):=List.take_of_length_le (by simp only[List.length_append,aY];omega)
 generalize cW w=WW at *
 refine cA aOs rfl (by simp[YE]) ?_
 simp(disch:=omega)only[go_sem,simprocAttr,h1,hlen,z1,z2,tw,w10,QK.use hR]
 obtain rfl|rfl|rfl|rfl:n=1∨n=2∨n=3∨n=4:=by omega
 all_goals simp(disch:=omega)only[go_sem,simprocAttr]at hC hL w10
 ·have fz:∀(H:aG) (k:Nat),bQ (freeze H (k+1)) (cC x)=some (cC x):=fun H k=>eK H k _ (by simp only[hvs])
  have hnr:fA (cC x)=cC x:=hnx
  iterate 2 (rw[aA];simp(disch:=omega)only[go_sem,simprocAttr,w10,w17,rK,aY,List.flatten_cons,List.flatten_nil,QK.use hnc,QK.use hC,QK.use hL])
  (rw[aB (l:=[1,2,4,39,40]) rfl];simp(disch:=omega)only[go_sem,simprocAttr];refine hW (P:=fun T=>∃ T',T=_++T') (fun T x ⟨T',h⟩=>⟨T'++[x],by rw[h,List.append_assoc]⟩) _ _ _ _ _ (fun f T hT hf=>?_) (5/w.o+1).toNat 0 (fun _=>⟨0,0,0,0,false,0,0,⟨0,0,0,0⟩⟩) _ ⟨[],(List.append_nil _).symm⟩ (fun i _=>⟨by simp,by simp,by simp,by simp,by simp,by simp,⟨by simp,by simp,by simp,by simp⟩⟩) (by omega));obtain⟨T',rfl⟩:=hT
  simp(disch:=omega)only[go_sem,simprocAttr,Sy.dirs,cells,hta,fz,hnr,aY]
  refine⟨⟨List.replicate 1 ⟨0,fun _=>0,[],false,false⟩,List.replicate 1 x,f,[]⟩,?_,⟨rfl,rfl,by simp,?_,?_,hf,by simp⟩,rfl⟩
  ·simp only[cSy,iB,Sy.dirs,cells,List.replicate,List.append_nil,List.length_cons,List.length_nil,List.cons_append,List.nil_append]
   rfl
  ·intro c hc
   rw[List.eq_of_mem_replicate hc]
   exact c0o
  ·intro k hk
   rw[List.eq_of_mem_replicate hk]
   exact xo
 ·have fz:∀(H:aG) (k:Nat),bQ (freeze H (k+1)) (cC x++cC x)=some (cC x++cC x):=fun H k=>eK H k _ (by simp only[List.all_append,hvs,Bool.and_self])
  have hnr:fA (cC x++cC x)=cC x++cC x:=jQ hnx hnx
  iterate 3 (rw[aA];simp(disch:=omega)only[go_sem,simprocAttr,w10,w17,hta,rK,aY,List.flatten_cons,List.flatten_nil,QK.use hnc,QK.use hC,QK.use hL])
  (rw[aB (l:=[1,2,4,39,40]) rfl];simp(disch:=omega)only[go_sem,simprocAttr];refine hW (P:=fun T=>∃ T',T=_++T') (fun T x ⟨T',h⟩=>⟨T'++[x],by rw[h,List.append_assoc]⟩) _ _ _ _ _ (fun f T hT hf=>?_) (5/w.o+1).toNat 0 (fun _=>⟨0,0,0,0,false,0,0,⟨0,0,0,0⟩⟩) _ ⟨[],(List.append_nil _).symm⟩ (fun i _=>⟨by simp,by simp,by simp,by simp,by simp,by simp,⟨by simp,by simp,by simp,by simp⟩⟩) (by omega));obtain⟨T',rfl⟩:=hT
  simp(disch:=omega)only[go_sem,simprocAttr,Sy.dirs,cells,t2,fz,hnr,aY]
  refine⟨⟨List.replicate 2 ⟨0,fun _=>0,[],false,false⟩,List.replicate 2 x,f,[]⟩,?_,⟨rfl,rfl,by simp,?_,?_,hf,by simp⟩,rfl⟩
  ·simp only[cSy,iB,Sy.dirs,cells,List.replicate,List.append_nil,List.length_cons,List.length_nil,List.cons_append,List.nil_append]
   rfl
  ·intro c hc
   rw[List.eq_of_mem_replicate hc]
   exact c0o
  ·intro k hk
   rw[List.eq_of_mem_replicate hk]
   exact xo
 ·have fz:∀(H:aG) (k:Nat),bQ (freeze H (k+1)) (cC x++(cC x++cC x))=some (cC x++(cC x++cC x)):=fun H k=>eK H k _ (by simp only[List.all_append,hvs,Bool.and_self])
  have hnr:fA (cC x++(cC x++cC x))=cC x++(cC x++cC x):=jQ hnx (jQ hnx hnx)
  iterate 4 (rw[aA];simp(disch:=omega)only[go_sem,simprocAttr,w10,w17,hta,rK,aY,List.flatten_cons,List.flatten_nil,t2,QK.use hnc,QK.use hC,QK.use hL])
  (rw[aB (l:=[1,2,4,39,40]) rfl];simp(disch:=omega)only[go_sem,simprocAttr];refine hW (P:=fun T=>∃ T',T=_++T') (fun T x ⟨T',h⟩=>⟨T'++[x],by rw[h,List.append_assoc]⟩) _ _ _ _ _ (fun f T hT hf=>?_) (5/w.o+1).toNat 0 (fun _=>⟨0,0,0,0,false,0,0,⟨0,0,0,0⟩⟩) _ ⟨[],(List.append_nil _).symm⟩ (fun i _=>⟨by simp,by simp,by simp,by simp,by simp,by simp,⟨by simp,by simp,by simp,by simp⟩⟩) (by omega));obtain⟨T',rfl⟩:=hT
  simp(disch:=omega)only[go_sem,simprocAttr,Sy.dirs,cells,t3,fz,hnr,aY]
  refine⟨⟨List.replicate 3 ⟨0,fun _=>0,[],false,false⟩,List.replicate 3 x,f,[]⟩,?_,⟨rfl,rfl,by simp,?_,?_,hf,by simp⟩,rfl⟩
  ·simp only[cSy,iB,Sy.dirs,cells,List.replicate,List.append_nil,List.length_cons,List.length_nil,List.cons_append,List.nil_append]
   rfl
  ·intro c hc
   rw[List.eq_of_mem_replicate hc]
   exact c0o
  ·intro k hk
   rw[List.eq_of_mem_replicate hk]
   exact xo
 ·have fz:∀(H:aG) (k:Nat),bQ (freeze H (k+1)) (cC x++(cC x++(cC x++cC x)))=some (cC x++(cC x++(cC x++cC x))):=fun H k=>eK H k _ (by simp only[List.all_append,hvs,Bool.and_self])
  have hnr:fA (cC x++(cC x++(cC x++cC x)))=cC x++(cC x++(cC x++cC x)):=jQ hnx (jQ hnx (jQ hnx hnx))
  iterate 5 (rw[aA];simp(disch:=omega)only[go_sem,simprocAttr,w10,w17,hta,rK,aY,List.flatten_cons,List.flatten_nil,t2,t3,QK.use hnc,QK.use hC,QK.use hL])
  (rw[aB (l:=[1,2,4,39,40]) rfl];simp(disch:=omega)only[go_sem,simprocAttr];refine hW (P:=fun T=>∃ T',T=_++T') (fun T x ⟨T',h⟩=>⟨T'++[x],by rw[h,List.append_assoc]⟩) _ _ _ _ _ (fun f T hT hf=>?_) (5/w.o+1).toNat 0 (fun _=>⟨0,0,0,0,false,0,0,⟨0,0,0,0⟩⟩) _ ⟨[],(List.append_nil _).symm⟩ (fun i _=>⟨by simp,by simp,by simp,by simp,by simp,by simp,⟨by simp,by simp,by simp,by simp⟩⟩) (by omega));obtain⟨T',rfl⟩:=hT
  simp(disch:=omega)only[go_sem,simprocAttr,Sy.dirs,cells,t4,fz,hnr,aY]
  refine⟨⟨List.replicate 4 ⟨0,fun _=>0,[],false,false⟩,List.replicate 4 x,f,[]⟩,?_,⟨rfl,rfl,by simp,?_,?_,hf,by simp⟩,rfl⟩
  ·simp only[cSy,iB,Sy.dirs,cells,List.replicate,List.append_nil,List.length_cons,List.length_nil,List.cons_append,List.nil_append]
   rfl
  ·intro c hc
   rw[List.eq_of_mem_replicate hc]
   exact c0o
  ·intro k hk
   rw[List.eq_of_mem_replicate hk]
   exact xo
end
theorem BG:∀{l:List Cd},nR l→∀ x∈l,nG x
 |[],_,x,h=>by cases h
 |y::l,h,x,hx=>by
  rw[nR]at h
  rcases List.mem_cons.1 hx with rfl|hx
  ·exact h.1
  ·exact BG h.2 x hx
theorem yV:∀ a b:List Cd,eP (a++b)=eP a++eP b
 |[],b=>by rw[eP];rfl
 |x::a,b=>by rw[List.cons_append,eP,eP,yV a b,List.append_assoc]
theorem CO:∀(l:List Cd) (k:Nat),(eP l).take (k*5)=eP (l.take k)
 |[],k=>by simp[eP]
 |x::l,0=>by simp[eP]
 |x::l,k+1=>by
  have hl:=tX x
  rw[List.take_succ_cons,eP,eP,← CO l k,List.take_append,List.take_of_length_le (by omega),hl,show(k+1)*5-5=k*5 by omega]
theorem y9(x:Cd):dE (cCd x)=true:=by
 obtain⟨k,t,n,v,l,h⟩:=oY x
 rw[h]
 rfl
theorem qK:∀ l:List Cd,dE (eP l)=true
 |[]=>by rw[eP];rfl
 |x::l=>by
  rw[eP]
  exact fC _ _ (y9 x) (qK l)
theorem OY{bx:Option Blk}{KK:List It}{Q:Ex→Ev.St→Prop}(hE:∀(a b c d e f g h k:A) (i:Nat) (T:aG) (q:List Cd) (j:Nat),q.length≤602→dN Cx (.out 0) KK ⟨[(18,a),(17,b),(16,c),(15,d),(14,e),(13,f),(12,g),(11,h),(10,k),(9,I64 i),(1,I64 301),(5,.ref (j+1) 0 q.length 5),(6,I64 i)],bx::T⟩ Q) :
  ∀(m i:Nat) (T:aG) (q:List Cd) (j:Nat) (wq:Bool),i+m=302→T[j]?=some (some ⟨27,eP q,wq⟩)→(∀ c∈q,nG c)→q.length≤602 →
   bG Cx (.code (.loop aBf)::KK) ⟨[(1,I64 301),(5,.ref (j+1) 0 q.length 5),(6,I64 i)],bx::T⟩ Q:=by
 intro m
 induction m with
 |zero =>
  intro i T q j wq hi hT hq hl
  rw[aA]
  by_cases h1:i<q.length
  ·simp(disch:=omega)only[go_sem,simprocAttr]
   exact hE _ _ _ _ _ _ _ _ _ i T q j hl
  ·simp(disch:=omega)only[go_sem,simprocAttr]
   exact hE _ _ _ _ _ _ _ _ _ i T q j hl
 |succ m ih =>
  intro i T q j wq hi hT hq hl
  rw[aA]
  by_cases h1:i<q.length
  case neg =>
   simp(disch:=omega)only[go_sem,simprocAttr]
   exact hE _ _ _ _ _ _ _ _ _ i T q j hl
  by_cases h2:q.length<301
  case neg =>
   simp(disch:=omega)only[go_sem,simprocAttr]
   exact hE _ _ _ _ _ _ _ _ _ i T q j hl
  obtain⟨c,hc⟩:∃ c,q[i]?=some c:=⟨_,List.getElem?_eq_getElem h1⟩
  obtain⟨r,hr⟩:=qU hc
  have oc:=hq c (List.mem_of_getElem? hc)
  obtain⟨k,t,n,v,l⟩:=c
  rw[nG]at oc
  obtain⟨-,-,-,-,ll,ol⟩:=oc
  have ol:=BG ol
  rw[cCd]at hr
  have hr4:List.drop (i*5+4) (eP q)=.sl l.length (eP l)::r:=by
   rw[← List.drop_drop,hr]
   rfl
  have hjl:=(List.getElem?_eq_some_iff.1 hT).1
  have e1:=nI q
  have e2:=nI l
  have e4:=qK q
  have e5:(eP q).take (q.length*5)=eP q:=List.take_of_length_le (by omega)
  have row:∀(q':List Cd) ,(T.set j none++[some ⟨27,eP q',false⟩])[T.length]?=some (some ⟨27,eP q',false⟩):=fun q'=>d8 T _ j none 0
  by_cases h3:l.length≤301
  ·have e3:=qK l
   have e6:(eP l).take (l.length*5)=eP l:=List.take_of_length_le (by omega)
   simp(disch:=omega)only[go_sem,simprocAttr,hT,hr4,e1,e2,e3,e5,e6]
   rw[← yV]
   rw[aB (l:=[1,5,6]) rfl]
   simp(disch:=omega)only[go_sem,simprocAttr]
   have nx:=ih (i+1) _ (q++l) T.length false (by omega) (row _) (fun c h=>(List.mem_append.1 h).elim (hq c) (ol c)) (by simp;omega)
   rw[Int.natCast_add,Int.natCast_one,List.length_append]at nx
   exact nx
  ·have e3:=qK (l.take 301)
   have e6:(eP l).take 1505=eP (l.take 301):=CO l 301
   have e7:(eP (l.take 301)).length=1505:=by rw[nI];simp;omega
   have e8:(eP (l.take 301)).take 1505=eP (l.take 301):=List.take_of_length_le (by omega)
   simp(disch:=omega)only[go_sem,simprocAttr,hT,hr4,e1,e2,e3,e5,e6,e7]
   rw[← yV]
   rw[aB (l:=[1,5,6]) rfl]
   simp(disch:=omega)only[go_sem,simprocAttr]
   have nx:=ih (i+1) _ (q++l.take 301) T.length false (by omega) (row _) (fun c h=>(List.mem_append.1 h).elim (hq c) (fun h=>ol c (List.mem_of_mem_take h))) (by simp;omega)
   have el:(q++l.take 301).length=q.length+301:=by simp;omega
   rw[Int.natCast_add,Int.natCast_one,el]at nx
   exact nx
theorem aE3{x:Cd}(ox:nG x):∃ y,EvQ Cx 57 [.agg (cCd x),I64 301] y∧∃ n:Nat,y=I64 n∧n≤301:=by
 have e1:=tX x
 have e2:=y9 x
 have e3:List.take 5 (cCd x)=cCd x:=List.take_of_length_le (by omega)
 have e4:cCd x=eP [x]:=by rw[eP,eP];simp
 refine cA a5h rfl (by simp[aBQ]) ?_
 generalize hc:cCd x=cs at *
 simp(disch:=omega)only[go_sem,simprocAttr,e1,e2,e3]
 rw[aB (l:=[1,5,6]) rfl]
 simp(disch:=omega)only[go_sem,simprocAttr]
 refine OY ?_ 302 0 _ [x] 0 true (by omega) (by rw[← e4];rfl) (by simpa using ox) (by simp)
 intro a b c d e f g h k i T q j hq
 by_cases h1:q.length≤301
 ·simp(disch:=omega)only[go_sem,simprocAttr]
  exact⟨_,rfl,h1⟩
 ·simp(disch:=omega)only[go_sem,simprocAttr]
  exact⟨301,rfl,by omega⟩
theorem aDj(l:List (List Pl.Ins)){i:Nat}(h:i<l.length):List.drop i (l.map fun x=>eY x)=eY l[i]::List.drop (i+1) (l.map fun x=>eY x):=eJ (by simp[h])
theorem N6{ts:List (List Pl.Ins)}(hl:ts.length≤140737488351232)(hb:∀ l∈ts,l.length≤140737488351232){cs:List A}(d3:List.drop 3 cs=.sl ts.length (ts.map fun x=>eY x)::List.drop 4 cs){KK:List It}{Q:Ex→Ev.St→Prop}(hE:∀(a b c d e f g h k l l':A) (n:Nat),n≤1125899906842624→dN Cx (.out 0) KK ⟨[(27,a),(26,b),(25,c),(24,d),(23,e),(22,f),(21,g),(20,h),(19,k),(18,l),(1,I64 300),(2,.ptr 0 0),(5,I64 n),(6,l')],[some ⟨29,cs,true⟩]⟩ Q) :
  ∀(m i n:Nat),i+m=ts.length→n≤1125899906842624→bG Cx (.code (.loop aDP)::KK) ⟨[(1,I64 300),(2,.ptr 0 0),(5,I64 n),(6,I64 i)],[some ⟨29,cs,true⟩]⟩ Q:=by
 intro m
 induction m with
 |zero =>
  intro i n hi hn
  obtain rfl:i=ts.length:=by omega
  rw[aA]
  simp(disch:=omega)only[go_sem,simprocAttr,d3,Int.lt_irrefl]
  exact hE _ _ _ _ _ _ _ _ _ _ _ n hn
 |succ m ih =>
  intro i n hi hn
  rw[aA]
  have ht:=aDj ts (i:=i) (by omega)
  have hb:=hb ts[i] (List.getElem_mem ..)
  by_cases q:n≤300
  ·generalize ts[i]=t at *
   simp(disch:=omega)only[go_sem,simprocAttr,d3,ht,Nat.mul_one]
   rw[aB (l:=[1,2,5,6]) rfl]
   simp(disch:=omega)only[go_sem,simprocAttr]
   have nx:=ih (i+1) (n+t.length) (by omega) (by omega)
   simp only[Int.natCast_add,Int.natCast_one]at nx
   exact nx
  ·simp(disch:=omega)only[go_sem,simprocAttr,d3]
   exact hE _ _ _ _ _ _ _ _ _ _ _ n hn
theorem aDQ{P:Pg}(ok:P.Ok):∃ y,EvQ Cx 27 [.agg (cPg P),I64 300] y∧∃ n:Nat,y=I64 n∧n≤2251799813685248:=by
 obtain⟨k0,t0,n0,v0,l0,hc⟩:=oY P.cond
 have hP:cPg P=[Sv P.name,.sl P.locs.length (P.locs.map Sv),.sl P.init.length (P.init.map fun n=>I8 n),.sl P.threads.length (P.threads.map fun l=>eY l),I8 P.ask]++cCd P.cond:=by
  unfold cPg Pg.low
  rfl
 obtain⟨_,hS,k,rfl,hk⟩:=aE3 ok.cond
 have d1:List.drop 1 (cPg P)=.sl P.locs.length (P.locs.map Sv)::List.drop 2 (cPg P):=by rw[hP];rfl
 have d2:List.drop 2 (cPg P)=.sl P.init.length (P.init.map fun n=>I8 n)::List.drop 3 (cPg P):=by rw[hP];rfl
 have d3:List.drop 3 (cPg P)=.sl P.threads.length (P.threads.map fun l=>eY l)::List.drop 4 (cPg P):=by rw[hP];rfl
 have d5:List.drop 5 (cPg P)=cCd P.cond:=by rw[hP];rfl
 have l5:=tX P.cond
 have t5:List.take 5 (cCd P.cond)=cCd P.cond:=List.take_of_length_le (by omega)
 have hl:(cPg P).length=10:=by rw[hP,List.length_append,l5];rfl
 have ho:dE (cPg P)=true:=by rw[hP];exact fC _ _ rfl (y9 _)
 have t10:List.take 10 (cPg P)=cPg P:=List.take_of_length_le (by omega)
 have z1:∀ H,bQ (freeze H 19) (cCd P.cond)=some (cCd P.cond):=fun H=>by rw[hc];simp only[cV,qY,aAb];rfl
 have z2:shut.shutL (cCd P.cond)=true:=by rw[hc];rfl
 have b1:=ok.locs
 have b2:=ok.init
 have b3:=ok.threads
 generalize cPg P=cs at *
 refine cA a68 rfl (by simp[aE4]) ?_
 simp(disch:=omega)only[go_sem,simprocAttr,ho,d1,d2,d3]
 rw[aB (l:=[1,2,5,6]) rfl]
 simp(disch:=omega)only[go_sem,simprocAttr]
 have fin:=N6 (cs:=cs) b3 (fun l h=>(ok.thread l h).1) d3 (KK:=[.blk 0,.code (.seq (.reg [1,2,5] [⟨some 38,.move (.tmp 5),none⟩,⟨some 39,.fieldAddr 29 (.tmp 2) 5,none⟩,⟨some 40,.load 27 (.tmp 39),none⟩,⟨some 41,.move (.tmp 1),none⟩,⟨some 42,.binOp .add 3 (.tmp 41) (.const (.int .i64 1)) 3,none⟩,⟨some 43,.call ⟨.value (.func 57),#[(.tmp 40),(.tmp 42)],#[27,3]⟩,none⟩,⟨some 44,.binOp .add 3 (.tmp 38) (.tmp 43) 3,none⟩,⟨some 4,.assign (.tmp 44),none⟩] 0) .ret)]) (Q:=QM Cx.T .shut [.tmp 4] fun y=>∃ n:Nat,y=I64 n∧n≤2251799813685248) (by
  intro a b c d e f g h k' l l' n hn
  simp(disch:=omega)only[go_sem,simprocAttr,d5,l5,t5,z1,z2,QK.use hS]
  exact⟨n+k,by rw[Int.natCast_add],by omega⟩) P.threads.length 0 (P.locs.length+P.init.length+P.threads.length) (by omega) (by omega)
 simp only[Int.natCast_add]at fin
 exact fin
end Go.Proofs.YtpdphobnchajbaaGreatDoor.Ev
