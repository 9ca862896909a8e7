/- sys: the candidates are gone through. -/
import Derived.Test.YtpdphobnchajbaaGreatDoorQ44
set_option linter.unusedSimpArgs false
set_option linter.unusedVariables false
namespace Go.Proofs.YtpdphobnchajbaaGreatDoor.Ev
open Go Go.RowKit
set_option maxRecDepth 100000
set_option maxHeartbeats 16000000
def fil(E:Sp→Int)(R:List Sp):List Sp:=R.filter fun x=>!dis (E x)
theorem uI(E:Sp→Int)(x:Sp)(R:List Sp)(l:List Sp):l++fil E (x::R)=(if dis (E x)=true then l else l++[x])++fil E R:=by
 unfold fil
 rw[List.filter_cons]
 cases h:dis (E x)
 ·simp
 ·simp
theorem D3(E:Sp→Int)(R:List Sp):(fil E R).length≤R.length:=List.length_filter_le ..
def kQ(k:Int)(i:Nat):Nat→List Sp
 |0=>[]
 |d+1=>⟨k,i,0,zMg⟩::kQ k (i+1) d
theorem tU(k:Int):∀ d i,kQ k i d=(List.range' i d).map fun j:Nat=>⟨k,(j:Int),0,zMg⟩
 |0,i=>rfl
 |d+1,i=>by rw[kQ,tU k d (i+1)];rfl
theorem mZ(k:Int)(n:Nat):kQ k 0 n=l9 k n:=by
 rw[tU]
 unfold l9
 rw[List.range_eq_range']
def kP(i j:Nat):Nat→List Sp
 |0=>[]
 |d+1=>⟨4,i,j,zMg⟩::kP i (j+1) d
theorem s8(i:Nat):∀ d j,kP i j d=(List.range' j d).map fun j:Nat=>⟨4,(i:Int),(j:Int),zMg⟩
 |0,j=>rfl
 |d+1,j=>by rw[kP,s8 i d (j+1)];rfl
theorem A6(i L:Nat):kP i 0 L=uM L i:=by
 rw[s8]
 unfold uM
 rw[List.range_eq_range']
def mU(L i:Nat):Nat→List Sp
 |0=>[]
 |d+1=>uM L i++mU L (i+1) d
theorem BF(L:Nat):∀ d i,mU L i d=(List.range' i d).flatMap (uM L)
 |0,i=>rfl
 |d+1,i=>by rw[mU,BF L d (i+1)];rfl
theorem oS(L n:Nat):mU L 0 n=evS n L:=by
 rw[BF]
 unfold evS
 rw[List.range_eq_range']
theorem M0:zMg.Ok:=by constructor<;>first|decide|(constructor<;>decide)
section
variable{w:Wo}{s:Sy}{n:Nat}{rb mb rp lp cp B:Nat}{vc vk:A}{E:Sp→Int}
def YOk[Kst](w:Wo)(s:Sy)(rb mb rp lp cp B:Nat)(vc vk:A)(E:Sp→Int):Prop:=∀{K:aG} {l:List Sp},SI w s rb mb rp lp cp B vc vk K l→l.length≤1000→∀{x:Sp},x.Ok→VA Cx B [eS x] K fun y K'=>y=Bo true∧SI w s rb mb rp lp cp B vc vk K' (if dis (E x)=true then l else l++[x])∧Kps K K'
theorem xO(E:Sp→Int)(l:List Sp)(x:Sp):(if dis (E x)=true then l else l++[x]).length≤l.length+1:=by
 split
 ·omega
 ·simp
theorem uU[Kst](Y:YOk w s rb mb rp lp cp B vc vk E)(n4:n≤4){kind:Int}(k1:1≤kind)(k5:kind≤5){T:A}{t:Int}{KK:List It}{Q:Ex→Ev.St→Prop} :
  ∀(d i:Nat) (K:aG) (l:List Sp),i+d=n→SI w s rb mb rp lp cp B vc vk K l→l.length+d≤1000→(∀ K,SI w s rb mb rp lp cp B vc vk K (l++fil E (kQ kind i d))→dN Cx (.out 2) KK ⟨[(26,Bo false),(0,.yl B),(1,.ptr cp 0),(3,I8 n),(5,I8 kind),(20,T),(21,I64 t),(24,I8 n),(25,I8 n)],K⟩ Q) →
   bG Cx (.code (.loop aEW)::KK) ⟨[(0,.yl B),(1,.ptr cp 0),(3,I8 n),(5,I8 kind),(20,T),(21,I64 t),(24,I8 n),(25,I8 i)],K⟩ Q:=by
 intro d
 induction d with
 |zero =>
  intro i K l hi S hl hE
  obtain rfl:i=n:=by omega
  rw[aA]
  simp(disch:=omega)only[go_sem,simprocAttr,Int.lt_irrefl]
  have:=hE K (by simpa[kQ,fil]using S)
  exact this
 |succ d ih =>
  intro i K l hi S hl hE
  rw[kQ,uI]at hE
  have xo:(Sp.mk kind i 0 zMg).Ok:=⟨⟨by simp only;omega,by simp only;omega⟩,⟨by simp only;omega,by simp only;omega⟩,by simp,M0⟩
  rw[aA]
  simp(disch:=omega)only[go_sem,simprocAttr,dC]
  refine xW (Y S (by omega) xo) ?_
  rintro y K' ⟨rfl,S',-⟩
  simp(disch:=omega)only[go_sem,simprocAttr]
  rw[aB (l:=[0,1,3,5,20,21,24,25]) rfl]
  simp(disch:=omega)only[go_sem,simprocAttr]
  have nx:=ih (i+1) K' _ (by omega) S' (by have:=xO E l ⟨kind,i,0,zMg⟩;omega) hE
  rw[Int.natCast_add,Int.natCast_one]at nx
  exact nx
theorem YP[Kst](Y:YOk w s rb mb rp lp cp B vc vk E){i L:Nat}(i4:i<4)(L6:L≤6){t36 t37:A}{KK:List It}{Q:Ex→Ev.St→Prop} :
  ∀(d j:Nat) (K:aG) (l:List Sp),j+d=L→SI w s rb mb rp lp cp B vc vk K l→l.length+d≤1000→(∀ K,SI w s rb mb rp lp cp B vc vk K (l++fil E (kP i j d))→dN Cx (.out 6) KK ⟨[(48,Bo false),(0,.yl B),(1,.ptr cp 0),(7,I8 i),(36,t36),(37,t37),(46,I8 L),(47,I8 L)],K⟩ Q) →
   bG Cx (.code (.loop aBn)::KK) ⟨[(0,.yl B),(1,.ptr cp 0),(7,I8 i),(36,t36),(37,t37),(46,I8 L),(47,I8 j)],K⟩ Q:=by
 intro d
 induction d with
 |zero =>
  intro j K l hi S hl hE
  obtain rfl:j=L:=by omega
  rw[aA]
  simp(disch:=omega)only[go_sem,simprocAttr,Int.lt_irrefl]
  have:=hE K (by simpa[kP,fil]using S)
  exact this
 |succ d ih =>
  intro j K l hi S hl hE
  rw[kP,uI]at hE
  have xo:(Sp.mk 4 i j zMg).Ok:=⟨⟨by simp only;omega,by simp only;omega⟩,⟨by simp only;omega,by simp only;omega⟩,⟨by simp only;omega,by simp only;omega⟩,M0⟩
  rw[aA]
  simp(disch:=omega)only[go_sem,simprocAttr,dC]
  refine xW (Y S (by omega) xo) ?_
  rintro y K' ⟨rfl,S',-⟩
  simp(disch:=omega)only[go_sem,simprocAttr]
  rw[aB (l:=[0,1,7,36,37,46,47]) rfl]
  simp(disch:=omega)only[go_sem,simprocAttr]
  have nx:=ih (j+1) K' _ (by omega) S' (by have:=xO E l ⟨4,i,j,zMg⟩;omega) hE
  rw[Int.natCast_add,Int.natCast_one]at nx
  exact nx
end
theorem WM(E:Sp→Int)(a b:List Sp):fil E (a++b)=fil E a++fil E b:=List.filter_append ..
theorem BK(L i:Nat):(uM L i).length=L:=by
 unfold uM
 simp
theorem aDp(x y:Mg):x.eqB y=y.eqB x:=by
 rw[Bool.eq_iff_iff,Mg.eqB_iff,Mg.eqB_iff]
 exact eq_comm
theorem aCY{m:Mg}{l:List Mg}(hl:l.length≤200):∃ y,EvQ Cx 128 [.sl l.length (cells cM l),eM m] y∧∃ i:Int,y=I64 i∧decide (0≤i)=rZ m l∧-1≤i∧i≤200:=by
 have loop:∀(d j:Nat),j+d=l.length→bG Cx [.code (.loop TF),.blk 0,.code (.seq (.reg [] [⟨some 4,.assign (.const (.int .i64 (-1))),none⟩] 0) .ret)] ⟨[(0,.sl l.length (cells cM l)),(3,.ptr 0 0),(7,I64 l.length),(8,I64 j)],[some ⟨60,cM m,true⟩]⟩ (QM Cx.T .shut [.tmp 4] fun y=>∃ i:Int,y=I64 i∧decide (0≤i)=rZ m (l.drop j)∧-1≤i∧i≤200):=by
  intro d
  induction d with
  |zero =>
   intro j hj
   obtain rfl:j=l.length:=by omega
   rw[List.drop_length]
   rw[aA]
   simp(disch:=omega)only[go_sem,simprocAttr,Int.lt_irrefl,rZ]
  |succ d ih =>
   intro j hj
   obtain⟨x,hx⟩:∃ x,l[j]?=some x:=⟨_,List.getElem?_eq_getElem (by omega)⟩
   have hd:l.drop j=x::l.drop (j+1):=eJ hx
   obtain⟨rr,hr⟩:=c8 (c:=cM) (n:=11) (fun _=>rfl) hx
   have nx:=ih (j+1) (by omega)
   rw[Int.natCast_add,Int.natCast_one]at nx
   have he:=NH m x
   rw[hd,rZ,← aDp m x]
   rw[aA]
   cases hb:m.eqB x with
   |true =>
    rw[hb]at he
    simp(disch:=omega)only[↓ he,go_sem,simprocAttr,hr]
    omega
   |false =>
    rw[hb]at he
    simp(disch:=omega)only[↓ he,go_sem,simprocAttr,hr]
    rw[aB (l:=[0,3,7,8]) rfl]
    simp(disch:=omega)only[go_sem,simprocAttr]
    exact nx
 refine cA aAj rfl (by simp[B5]) ?_
 simp(disch:=omega)only[go_sem,simprocAttr]
 rw[aB (l:=[0,3,7,8]) rfl]
 simp(disch:=omega)only[go_sem,simprocAttr]
 have:=loop l.length 0 (by omega)
 rw[List.drop_zero]at this
 exact this
theorem J5{m:Mg}{l:List Mg}(hl:l.length≤200):EvQ Cx 65 [.sl l.length (cells cM l),eM m] (Bo (rZ m l)):=by
 obtain⟨_,hi,i,rfl,h1,h2,h3⟩:=aCY (m:=m) hl
 refine aX aNY rfl (by simp[YM]) ?_
 simp(disch:=omega)only[go_sem,simprocAttr,QK.use hi]
 rw[← h1]
theorem ES{m:Mg}:EvQ Cx 65 [.v (.slice none 0 0),eM m] (Bo false):=by
 have hi:EvQ Cx 128 [.v (.slice none 0 0),eM m] (I64 (-1)):=by
  refine aX aAj rfl (by simp[B5]) ?_
  simp(disch:=omega)only[go_sem,simprocAttr]
  rw[aB (l:=[0,3,7,8]) rfl]
  simp(disch:=omega)only[go_sem,simprocAttr]
  rw[aA]
  simp(disch:=omega)only[go_sem,simprocAttr]
 refine aX aNY rfl (by simp[YM]) ?_
 simp(disch:=omega)only[go_sem,simprocAttr,QK.use hi]
section
variable{w:Wo}{s:Sy}{n:Nat}{rb mb rp lp cp B:Nat}{vc vk:A}{E:Sp→Int}
theorem PC[Kst](W:w.Run n)(Y:YOk w s rb mb rp lp cp B vc vk E){KK:List It}{Q:Ex→Ev.St→Prop} :
  ∀(d i:Nat) (K:aG) (l:List Sp),i+d=n→SI w s rb mb rp lp cp B vc vk K l→l.length+d*6≤1000→(∀ K,SI w s rb mb rp lp cp B vc vk K (l++fil E (mU w.lines i d))→dN Cx (.out 4) KK ⟨[(38,Bo false),(0,.yl B),(1,.ptr cp 0),(36,I8 n),(37,I8 n)],K⟩ Q) →
   bG Cx (.code (.loop aCI)::KK) ⟨[(0,.yl B),(1,.ptr cp 0),(36,I8 n),(37,I8 i)],K⟩ Q:=by
 intro d
 have n4:=W.n4
 have wT:=W.ok.T
 have hL:=u7 W.good.geo
 have d1:0≤5/w.o:=Int.ediv_nonneg (by omega) (by have:=W.good.geo.2.2.2.2.1;omega)
 have hl:((w.lines:Nat):Int)=5/w.o+1:=by unfold Wo.lines;omega
 have lines0:((w.lines:Nat):Int)≤6:=by
  rw[hl]
  have:=Int.ediv_le_self (a:=5) w.o (by omega)
  omega
 rw[← hl]at hL
 clear hl d1
 generalize w.lines=L at *
 induction d with
 |zero =>
  intro i K l hi S hl hE
  obtain rfl:i=n:=by omega
  rw[aA]
  simp(disch:=omega)only[go_sem,simprocAttr,Int.lt_irrefl]
  have:=hE K (by simpa[mU,fil]using S)
  exact this
 |succ d ih =>
  intro i K l hi S hl hE
  have hc:=S.1.hcp
  have Hb:=S.1.rn.at_
  rw[mU,WM]at hE
  rw[aA]
  simp(disch:=omega)only[go_sem,simprocAttr,Hb,r10,r15,hc,QK.use hL]
  rw[aB (l:=[0,1,7,36,37,46,47]) rfl]
  simp(disch:=omega)only[go_sem,simprocAttr]
  refine YP Y (by omega) (by omega) L 0 K l (by omega) S (by omega) ?_
  intro K' S'
  rw[A6]at S'
  simp(disch:=omega)only[go_sem,simprocAttr]
  rw[aB (l:=[0,1,36,37]) rfl]
  simp(disch:=omega)only[go_sem,simprocAttr]
  have nx:=ih (i+1) K' _ (by omega) S' (by have:=D3 E (uM L i);rw[BK]at this;rw[List.length_append];omega) (fun K h=>hE K (by rw[List.append_assoc]at h;exact h))
  rw[Int.natCast_add,Int.natCast_one]at nx
  exact nx
def zS(K:aG)(v:A)(l:List Mg):Prop:=(l=[]∧v=.v (.slice none 0 0))∨(l≠[]∧∃ j,v=.ref j 0 l.length 11∧K[j]?=some (some ⟨60,cells cM l,false⟩))
theorem zS.kps{K K':aG}{v:A}{l:List Mg}(h:zS K v l)(k:Kps K K'):zS K' v l:=by
 rcases h with h|⟨h0,j,h1,h2⟩
 ·exact .inl h
 ·exact .inr ⟨h0,j,h1,k j _ h2⟩
theorem zS.app{K:aG}{v:A}{l:List Mg}(h:zS K v l)(t:aG):zS (K++t) v l:=h.kps fun _ _ h=>aI h t
theorem SI.row[Kst]{K:aG}{l:List Sp}(S:SI w s rb mb rp lp cp B vc vk K l){j:Nat}{cs:List A}(hj:K[j]?=some (some ⟨60,cs,false⟩))(X:Option Blk):SI w s rb mb rp lp cp B vc vk (K.set j X) l:=by
 obtain⟨S,v,h,hv⟩:=S
 refine⟨⟨S.rn.other hj rfl X,aO S.hrp (bO hj S.hrp rfl) X,aO S.hcp (bO hj S.hcp rfl) X,⟨v,aO h (bO hj h rfl) X⟩,aO S.rec_ (bO hj S.rec_ rfl) X⟩,v,aO h (bO hj h rfl) X,?_⟩
 rcases hv with hv|⟨h0,j',h1,h2⟩
 ·exact .inl hv
 ·exact .inr ⟨h0,j',h1,aO h2 (bO hj h2 rfl) X⟩
theorem aIP(l:List Mg)(x:Mg):cells cM l++cM x=cells cM (l++[x]):=by
 rw[dP,cells,cells,List.append_nil]
theorem aDf[Kst](wT:w.T.Ok)(ts:s.Typ n)(hnl:s.net.length≤64)(Y:YOk w s rb mb rp lp cp B vc vk E){os:List Nat}(ho:∀ i∈os,i<s.net.length)(hol:os.length≤64){KK:List It}{Q:Ex→Ev.St→Prop} :
  ∀(d j:Nat) (K:aG) (l:List Sp) (v:A) (seen:List Mg),j+d=os.length→SI w s rb mb rp lp cp B vc vk K l→l.length+d≤1000→zS K v seen→seen.length≤j→(∀ K v,SI w s rb mb rp lp cp B vc vk K (l++fil E (A2 (dd seen (iD s.net (os.drop j)))))→dN Cx (.out 8) KK ⟨[(72,Bo false),(0,.yl B),(1,.ptr cp 0),(9,v),(69,.sl os.length (cells cJ os)),(70,I64 os.length),(71,I64 os.length)],K⟩ Q) →
   bG Cx (.code (.loop aDK)::KK) ⟨[(0,.yl B),(1,.ptr cp 0),(9,v),(69,.sl os.length (cells cJ os)),(70,I64 os.length),(71,I64 j)],K⟩ Q:=by
 intro d
 induction d with
 |zero =>
  intro j K l v seen hj S hl hv hs hE
  obtain rfl:j=os.length:=by omega
  rw[List.drop_length]at hE
  rw[aA]
  simp(disch:=omega)only[go_sem,simprocAttr,Int.lt_irrefl]
  have:=hE K v (by simpa[iD,dd,A2,fil]using S)
  exact this
 |succ d ih =>
  intro j K l v seen hj S hl hv hs hE
  obtain⟨i,hi⟩:∃ i,os[j]?=some i:=⟨_,List.getElem?_eq_getElem (by omega)⟩
  obtain⟨x,hx⟩:∃ x,s.net[i]?=some x:=⟨_,List.getElem?_eq_getElem (ho i (List.mem_of_getElem? hi))⟩
  have hil:=(List.getElem?_eq_some_iff.1 hx).1
  have hd:iD s.net (os.drop j)=x::iD s.net (os.drop (j+1)):=by
   rw[eJ hi]
   unfold iD
   rw[List.filterMap_cons,hx]
  rw[hd,dd]at hE
  obtain⟨r1,hr1⟩:=aA0 hi
  obtain⟨rr,hr⟩:=c8 (c:=cM) (n:=11) (fun _=>rfl) hx
  have hc:=S.1.hcp
  have Hb:=S.1.rn.at_
  have xo:(Sp.mk 5 0 0 x).Ok:=⟨⟨by simp,by simp⟩,⟨by simp,by simp⟩,⟨by simp,by simp⟩,ts.net x (List.mem_of_getElem? hx)⟩
  have hC:EvQ Cx 65 [.sl seen.length (cells cM seen),eM x] (Bo (rZ x seen)):=J5 (by omega)
  have hC0:=ES (m:=x)
  rw[aA]
  rcases hv with⟨rfl,rfl⟩|⟨h0,j',rfl,hj'⟩
  ·simp(disch:=omega)only[go_sem,simprocAttr,Hb,(pI wT),(mF wT),(lH wT),hc,hr1,hr,Nat.mul_one,QK.use hC0,dC]
   refine xW (Y (S.app _) (by omega) xo) ?_
   rintro y K' ⟨rfl,S',k'⟩
   simp(disch:=omega)only[go_sem,simprocAttr]
   rw[aB (l:=[0,1,9,69,70,71]) rfl]
   simp(disch:=omega)only[go_sem,simprocAttr]
   rw[show rZ x []=false from rfl,cond_false]at hE
   have nx:=ih (j+1) K' _ (.ref (K.length+2) 0 1 11) [x] (by omega) S' (by have:=xO E l ⟨5,0,0,x⟩;omega) (.inr ⟨by simp,_,rfl,k' _ _ ((aZ K _ 2).trans rfl)⟩) (by simp) (fun K v h=>hE K v (by
    rw[List.nil_append,A2,List.map_cons,uI]
    exact h))
   rw[Int.natCast_add,Int.natCast_one]at nx
   exact nx
  ·cases hm:rZ x seen with
   |true =>
    rw[hm,cond_true]at hE
    rw[hm]at hC
    simp(disch:=omega)only[go_sem,simprocAttr,Hb,(pI wT),(mF wT),(lH wT),hc,hr1,hr,Nat.mul_one,aI hj',cY,dG,jI,QK.use hC]
    rw[aB (l:=[0,1,9,69,70,71]) rfl]
    simp(disch:=omega)only[go_sem,simprocAttr]
    have nx:=ih (j+1) (K++[some ⟨60,cM x,true⟩]) _ (.ref j' 0 seen.length 11) seen (by omega) (S.app _) (by omega) (.inr ⟨h0,_,rfl,aI hj' _⟩) (by omega) hE
    rw[Int.natCast_add,Int.natCast_one]at nx
    exact nx
   |false =>
    rw[hm,cond_false]at hE
    rw[hm]at hC
    have hjl:=(List.getElem?_eq_some_iff.1 hj').1
    have sj:∀ T,(K++T).set j' none=K.set j' none++T:=fun T=>iV hjl _ _
    have g0:∀ T,(K.set j' none++T)[K.length]?=T[0]?:=fun T=>d8 K T j' none 0
    simp(disch:=omega)only[go_sem,simprocAttr,Hb,(pI wT),(mF wT),(lH wT),hc,hr1,hr,Nat.mul_one,aI hj',sj,g0,List.append_assoc,List.cons_append,cY,dG,jI,aIP,maxLen,QK.use hC,dC]
    refine xW (Y ((S.row hj' none).app _) (by omega) xo) ?_
    rintro y K' ⟨rfl,S',k'⟩
    simp(disch:=omega)only[go_sem,simprocAttr]
    rw[aB (l:=[0,1,9,69,70,71]) rfl]
    simp(disch:=omega)only[go_sem,simprocAttr]
    have nx:=ih (j+1) K' _ (.ref (K.length+2) 0 (seen.length+1) 11) (seen++[x]) (by omega) S' (by have:=xO E l ⟨5,0,0,x⟩;omega) (.inr ⟨by simp,_,by rw[List.length_append];rfl,k' _ _ (d8 K _ j' none 2)⟩) (by simp;omega) (fun K v h=>hE K v (by
     rw[A2,List.map_cons,uI]
     exact h))
    rw[Int.natCast_add,Int.natCast_one]at nx
    exact nx
end
theorem rU(L i:Nat):∀ d,(mU L i d).length=d*L
 |0=>by simp[mU]
 |d+1=>by rw[mU,List.length_append,rU L (i+1) d,BK,Nat.add_mul];omega
section
variable{w:Wo}{s:Sy}{n:Nat}{rb mb rp lp cp B:Nat}{vc vk:A}{E:Sp→Int}
theorem aAa[Kst](W:w.Run n)(ts:s.Typ n)(hnl:s.net.length≤64)(Y:YOk w s rb mb rp lp cp B vc vk E){os:List Nat}(hN:EvQ Cx 64 [.sl s.net.length (cells cM s.net),I8 w.net] (.sl os.length (cells cJ os)))(ho:∀ i∈os,i<s.net.length)(hol:os.length≤64){K:aG}(S:SI w s rb mb rp lp cp B vc vk K []) :
  bW Cx 63 [.yl B,.ptr cp 0] K fun _ K'=>SI w s rb mb rp lp cp B vc vk K' (okS E n w.lines (iD s.net os)):=by
 have n4:=W.n4
 have wT:=W.ok.T
 have wn:=W.n
 have hc:=S.1.hcp
 have Hb:=S.1.rn.at_
 have lines0:w.lines≤6:=by
  unfold Wo.lines
  have:=Int.ediv_le_self (a:=5) w.o (by omega)
  omega
 have f1:∀ k,(fil E (l9 k n)).length≤n:=fun k=>by
  have:=D3 E (l9 k n)
  unfold l9 at this ⊢
  simpa using this
 have f4:(fil E (evS n w.lines)).length≤24:=by
  have:=D3 E (evS n w.lines)
  rw[← oS,rU]at this
  have h2:n*w.lines≤4*6:=Nat.mul_le_mul n4 lines0
  rw[← oS]
  omega
 have f1a:=f1 1
 have f1b:=f1 2
 have f1c:=f1 3
 rw[aP a7o a9H];refine⟨by simp[aEG],?_⟩
 simp(disch:=omega)only[go_sem,simprocAttr,Hb,r10,r15,hc]
 rw[← wn]
 rw[aB (l:=[0,1,3,20,21]) rfl]
 simp(disch:=omega)only[go_sem,simprocAttr]
 rw[aA]
 simp(disch:=omega)only[go_sem,simprocAttr]
 rw[aB (l:=[0,1,3,5,20,21,24,25]) rfl]
 simp(disch:=omega)only[go_sem,simprocAttr]
 refine uU (n:=n) Y n4 (kind:=1) (by omega) (by omega) n 0 _ _ (by omega) S (by simp;omega) ?_
 intro K1 S1
 rw[mZ]at S1
 simp(disch:=omega)only[go_sem,simprocAttr]
 rw[aB (l:=[0,1,3,20,21]) rfl]
 simp(disch:=omega)only[go_sem,simprocAttr]
 rw[aA]
 simp(disch:=omega)only[go_sem,simprocAttr]
 rw[aB (l:=[0,1,3,5,20,21,24,25]) rfl]
 simp(disch:=omega)only[go_sem,simprocAttr]
 refine uU (n:=n) Y n4 (kind:=2) (by omega) (by omega) n 0 _ _ (by omega) S1 (by simp only[List.length_append,List.length_nil];omega) ?_
 intro K2 S2
 rw[mZ]at S2
 simp(disch:=omega)only[go_sem,simprocAttr]
 rw[aB (l:=[0,1,3,20,21]) rfl]
 simp(disch:=omega)only[go_sem,simprocAttr]
 rw[aA]
 simp(disch:=omega)only[go_sem,simprocAttr]
 rw[aB (l:=[0,1,3,5,20,21,24,25]) rfl]
 simp(disch:=omega)only[go_sem,simprocAttr]
 refine uU (n:=n) Y n4 (kind:=3) (by omega) (by omega) n 0 _ _ (by omega) S2 (by simp only[List.length_append,List.length_nil];omega) ?_
 intro K3 S3
 rw[mZ]at S3
 simp(disch:=omega)only[go_sem,simprocAttr]
 rw[aB (l:=[0,1,3,20,21]) rfl]
 simp(disch:=omega)only[go_sem,simprocAttr]
 rw[aA]
 simp(disch:=omega)only[go_sem,simprocAttr]
 rw[aB (l:=[0,1,36,37]) rfl]
 simp(disch:=omega)only[go_sem,simprocAttr]
 refine PC W Y n 0 _ _ (by omega) S3 (by simp only[List.length_append,List.length_nil];omega) ?_
 intro K4 S4
 rw[oS]at S4
 have hc4:=S4.1.hcp
 have Hb:=S4.1.rn.at_
 simp(disch:=omega)only[go_sem,simprocAttr,Hb,r15,(r20 wT),(fT wT),(eX wT),(pI wT),(mF wT),(lH wT),hc4,QK.use hN]
 rw[aB (l:=[0,1,9,69,70,71]) rfl]
 simp(disch:=omega)only[go_sem,simprocAttr]
 refine aDf wT ts hnl Y ho hol os.length 0 K4 _ _ [] (by omega) S4 (by simp only[List.length_append,List.length_nil];omega) (.inl ⟨rfl,rfl⟩) (by simp) ?_
 intro K5 v S5
 rw[List.drop_zero]at S5
 simp(disch:=omega)only[go_sem,simprocAttr,aW]
 have e:okS E n w.lines (iD s.net os)=[]++fil E (l9 1 n)++fil E (l9 2 n)++fil E (l9 3 n)++fil E (evS n w.lines)++fil E (A2 (dd [] (iD s.net os))):=by
  show fil E (AM n w.lines (iD s.net os))=_
  unfold AM
  simp only[WM,List.append_assoc,List.nil_append]
 rw[e]
 exact S5
end
theorem w10(w:Wo):List.drop 10 (cW w)=I64 w.c::I64 w.h::I64 w.o::I64 w.s::I64 w.y::List.drop 15 (cW w):=by
 obtain⟨c0,c1,c2,c3,c4,hc⟩:=jU w.P
 unfold cW cPg Pg.low Wo.gr
 rw[hc]
 rfl
section
variable{w:Wo}{s:Sy}
theorem s1:List.drop 1 (cSy s)=.sl s.caches.length (cells cC s.caches)::List.drop 2 (cSy s):=rfl
theorem s68:List.drop 68 (cSy s)=[.sl s.net.length (cells cM s.net)]:=rfl
theorem s0:(cSy s)[0]?=some (.sl s.cores.length (cells cK s.cores)):=rfl
theorem fQ:(cSy s).length=69:=rfl
theorem fJ:dE (cSy s)=true:=by
 unfold cSy iB
 simp only[dE,one,Bool.true_and]
 exact fC _ _ (sX s) rfl
theorem PY{WW SS:List A}{T:aG}(s0:SS[0]?=some (.sl s.cores.length (cells cK s.cores)))(l2:SS.length=69)(lc:s.cores.length≤4){KK:List It}{Q:Ex→Ev.St→Prop}(hF:dN Cx .back KK ⟨[(4,Bo false)],some ⟨44,WW,true⟩::some ⟨58,SS,true⟩::T⟩ Q)(hE:(∀ c∈s.cores,c.buf.length≤255)→dN Cx (.out 0) KK ⟨[(41,Bo false),(3,.ptr 1 0),(39,I64 s.cores.length),(40,I64 s.cores.length)],some ⟨44,WW,true⟩::some ⟨58,SS,true⟩::T⟩ Q)(hb:∀ c∈s.cores,c.buf.length≤140737488351232) :
  ∀(d i:Nat),i+d=s.cores.length→(∀ c∈s.cores.take i,c.buf.length≤255)→bG Cx (.code (.loop ZS)::KK) ⟨[(3,.ptr 1 0),(39,I64 s.cores.length),(40,I64 i)],some ⟨44,WW,true⟩::some ⟨58,SS,true⟩::T⟩ Q:=by
 intro d
 induction d with
 |zero =>
  intro i hi h
  obtain rfl:i=s.cores.length:=by omega
  rw[List.take_length]at h
  rw[aA]
  simp(disch:=omega)only[go_sem,simprocAttr,Int.lt_irrefl]
  exact hE h
 |succ d ih =>
  intro i hi h
  obtain⟨c,hc⟩:∃ c,s.cores[i]?=some c:=⟨_,List.getElem?_eq_getElem (by omega)⟩
  obtain⟨rr,hr⟩:=c8 (c:=cK) (n:=12) (fun _=>rfl) hc
  have hbc:=hb c (List.mem_of_getElem? hc)
  rw[aA]
  by_cases q:c.buf.length≤255
  ·simp(disch:=omega)only[go_sem,simprocAttr,s0,l2,hr]
   rw[aB (l:=[3,39,40]) rfl]
   simp(disch:=omega)only[go_sem,simprocAttr]
   have nx:=ih (i+1) (by omega) (by
    intro c' hc'
    rw[List.take_add_one,hc]at hc'
    rcases List.mem_append.1 hc' with h'|h'
    ·exact h c' h'
    ·obtain rfl:c'=c:=by simpa using h'
     exact q)
   rw[Int.natCast_add,Int.natCast_one]at nx
   exact nx
  ·simp(disch:=omega)only[go_sem,simprocAttr,s0,l2,hr]
   exact hF
theorem IQ{WW SS:List A}(s1:List.drop 1 SS=.sl s.caches.length (cells cC s.caches)::List.drop 2 SS)(l2:SS.length=69)(lc:s.caches.length≤4){KK:List It}{Q:Ex→Ev.St→Prop}(hF:∀ T:aG,dN Cx .back KK ⟨[(4,Bo false)],some ⟨44,WW,true⟩::some ⟨58,SS,true⟩::T⟩ Q)(hE:∀ T:aG,dN Cx (.out 2) KK ⟨[(56,Bo false),(3,.ptr 1 0),(54,I64 s.caches.length),(55,I64 s.caches.length)],some ⟨44,WW,true⟩::some ⟨58,SS,true⟩::T⟩ Q)(ho:∀ c∈s.caches,c.Ok) :
  ∀(d i:Nat) (T:aG),i+d=s.caches.length→bG Cx (.code (.loop O5)::KK) ⟨[(3,.ptr 1 0),(54,I64 s.caches.length),(55,I64 i)],some ⟨44,WW,true⟩::some ⟨58,SS,true⟩::T⟩ Q:=by
 intro d
 induction d with
 |zero =>
  intro i T hi
  obtain rfl:i=s.caches.length:=by omega
  rw[aA]
  simp(disch:=omega)only[go_sem,simprocAttr,Int.lt_irrefl]
  exact hE T
 |succ d ih =>
  intro i T hi
  obtain⟨c,hc⟩:∃ c,s.caches[i]?=some c:=⟨_,List.getElem?_eq_getElem (by omega)⟩
  obtain⟨rr,hr⟩:=c8 aY hc
  have nx:∀ T:aG,bG Cx (.code (.loop O5)::KK) ⟨[(3,.ptr 1 0),(54,I64 s.caches.length),(55,I64 ((i:Int)+1))],some ⟨44,WW,true⟩::some ⟨58,SS,true⟩::T⟩ Q:=fun T=>by
   have nx:=ih (i+1) T (by omega)
   rwa [Int.natCast_add,Int.natCast_one]at nx
  rw[aA]
  have co:=ho c (List.mem_of_getElem? hc)
  have w0:=(co.N 0 (by omega)).ways
  have w1:=(co.N 1 (by omega)).ways
  have w2:=(co.N 2 (by omega)).ways
  have w3:=(co.N 3 (by omega)).ways
  have e128:List.drop 128 (cC c++rr)=cR (c.N 0)++(cR (c.N 1)++(cR (c.N 2)++(cR (c.N 3)++(cO c.op++rr)))):=by
   unfold cC
   rfl
  simp(disch:=omega)only[go_sem,simprocAttr,s1,hr,e128]
  rw[aB (l:=[3,54,55,63,64]) rfl]
  simp(disch:=omega)only[go_sem,simprocAttr]
  rw[aA]
  by_cases a0:(c.N 0).ways<0
  ·simp(disch:=omega)only[go_sem,simprocAttr]
   exact hF _
  by_cases b0:255<(c.N 0).ways
  ·simp(disch:=omega)only[go_sem,simprocAttr]
   exact hF _
  simp(disch:=omega)only[go_sem,simprocAttr]
  rw[aB (l:=[3,54,55,63,64]) rfl]
  simp(disch:=omega)only[go_sem,simprocAttr]
  rw[aA]
  by_cases a1:(c.N 1).ways<0
  ·simp(disch:=omega)only[go_sem,simprocAttr]
   exact hF _
  by_cases b1:255<(c.N 1).ways
  ·simp(disch:=omega)only[go_sem,simprocAttr]
   exact hF _
  simp(disch:=omega)only[go_sem,simprocAttr]
  rw[aB (l:=[3,54,55,63,64]) rfl]
  simp(disch:=omega)only[go_sem,simprocAttr]
  rw[aA]
  by_cases a2:(c.N 2).ways<0
  ·simp(disch:=omega)only[go_sem,simprocAttr]
   exact hF _
  by_cases b2:255<(c.N 2).ways
  ·simp(disch:=omega)only[go_sem,simprocAttr]
   exact hF _
  simp(disch:=omega)only[go_sem,simprocAttr]
  rw[aB (l:=[3,54,55,63,64]) rfl]
  simp(disch:=omega)only[go_sem,simprocAttr]
  rw[aA]
  by_cases a3:(c.N 3).ways<0
  ·simp(disch:=omega)only[go_sem,simprocAttr]
   exact hF _
  by_cases b3:255<(c.N 3).ways
  ·simp(disch:=omega)only[go_sem,simprocAttr]
   exact hF _
  simp(disch:=omega)only[go_sem,simprocAttr]
  rw[aB (l:=[3,54,55,63,64]) rfl]
  simp(disch:=omega)only[go_sem,simprocAttr]
  rw[aA]
  simp(disch:=omega)only[go_sem,simprocAttr]
  rw[aB (l:=[3,54,55]) rfl]
  simp(disch:=omega)only[go_sem,simprocAttr]
  exact nx _
theorem aJc(wo:w.Ok)(hs:s.Raw):∃ y,EvQ Cx 10 [.agg (cW w),.agg (cSy s)] y∧∃ b,y=Bo b∧(b=true→s.Fit w):=by
 have h1:=iP w
 have hlen:=iO wo
 have w10:=w10 w
 have s0:=@s0 s
 have s1:=@s1 s
 have s68:=@s68 s
 have o2:=@fJ s
 have l2:=@fQ s
 have tw:List.take 585 (cW w)=cW w:=List.take_of_length_le (by omega)
 have tS:List.take 69 (cSy s)=cSy s:=List.take_of_length_le (by omega)
 have hG:=aCg w.c w.h w.o w.s w.y
 have l0:=hs.lc
 have l1:=hs.lk
 have l3:=hs.ln
 generalize cW w=WW at *
 generalize cSy s=SS at *
 refine cA a8a rfl (by simp[ZU]) ?_
 by_cases q1:OkG w.c w.h w.o w.s w.y
 case neg =>
  rw[decide_eq_false q1]at hG
  simp(disch:=omega)only[go_sem,simprocAttr,h1,w10,o2,QK.use hG]
  exact fun h=>h.elim
 rw[decide_eq_true q1]at hG
 simp(disch:=omega)only[go_sem,simprocAttr,h1,w10,s0,o2,l2,QK.use hG]
 by_cases q2:(s.cores.length:Int)=w.c
 case neg =>
  simp(disch:=omega)only[go_sem,simprocAttr]
  exact fun h=>h.elim
 by_cases q3:(s.caches.length:Int)=w.c
 case neg =>
  simp(disch:=omega)only[go_sem,simprocAttr,q2,w10,s1]
  exact fun h=>h.elim
 by_cases q4:s.net.length≤64
 case neg =>
  simp(disch:=omega)only[go_sem,simprocAttr,q2,q3,w10,s1,s68]
  exact fun h=>h.elim
 simp(disch:=omega)only[go_sem,simprocAttr,q2,q3,w10,s0,s1,s68,l2]
 rw[← q2]
 rw[aB (l:=[3,39,40]) rfl]
 simp(disch:=omega)only[go_sem,simprocAttr]
 have n4:=q1.2.1
 refine PY (T:=[]) s0 l2 (by omega) ?_ ?_ (fun c hc=>(hs.core c hc).2) s.cores.length 0 (by omega) (by simp)
 ·simp(disch:=omega)only[go_sem,simprocAttr]
  exact fun h=>h.elim
 intro hbuf
 simp(disch:=omega)only[go_sem,simprocAttr,s1]
 rw[aB (l:=[3,54,55]) rfl]
 simp(disch:=omega)only[go_sem,simprocAttr]
 refine IQ s1 l2 (by omega) ?_ ?_ hs.cache s.caches.length 0 [] (by omega)
 ·intro T
  simp(disch:=omega)only[go_sem,simprocAttr]
  exact fun h=>h.elim
 intro T
 simp(disch:=omega)only[go_sem,simprocAttr]
 exact fun _=>⟨hs,q2,q3,q4,hbuf⟩
end
def vs:A→Bool
 |.v _=>true
 |.sl _ _=>true
 |_=>false
theorem eK(H:aG)(n:Nat):∀ l:List A,l.all vs=true→bQ (freeze H (n+1)) l=some l
 |[],_=>rfl
 |a::l,h=>by
  rw[List.all_cons,Bool.and_eq_true]at h
  rw[cV,eK H n l h.2]
  cases a<;>first|simp only[qY,aAb]|(exact absurd h.1 (by simp[vs]))
theorem dJ:∀ l:List A,l.all vs=true→shut.shutL l=true
 |[],_=>rfl
 |a::l,h=>by
  rw[List.all_cons,Bool.and_eq_true]at h
  rw[shut.shutL,dJ l h.2]
  cases a<;>first|rfl|(exact absurd h.1 (by simp[vs]))
theorem aOI:∀ l:List Ce,(cells cE l).all vs=true
 |[]=>rfl
 |x::l=>by
  simp only[cells,List.cons_append,List.nil_append,List.all_cons,vs,Bool.true_and,aOI l]
theorem gY(w:Wo):(cW w).all vs=true:=by
 obtain⟨k0,t0,n0,v0,l0,hc⟩:=oY w.P.cond
 unfold cW cPg Pg.low Wo.gr cT9
 rw[hc]
 simp only[List.all_append,List.all_cons,List.all_nil,vs,aOI,Bool.and_true]
theorem aBv(H:aG)(n:Nat):∀ l:List Sp,bQ (freeze H (n+1)) (cells cS l)=some (cells cS l)
 |[]=>rfl
 |x::l=>by
  simp only[cells,List.cons_append,List.nil_append,cV,qY,aBv H n l]
theorem O2:∀ l:List Sp,fA (cells cS l)=cells cS l
 |[]=>rfl
 |x::l=>by
  simp only[cells,List.cons_append,List.nil_append,fA,nrm,O2 l]
theorem gO(s:Sy):(cSy s).all vs=true:=rfl
section
variable{w:Wo}{s:Sy}{n:Nat}
theorem QB(wo:w.Ok){bR bF:Bool}(hR:EvQ Cx 9 [.agg (cW w)] (Bo bR))(hF:bR=true→EvQ Cx 10 [.agg (cW w),.agg (cSy s)] (Bo bF)):EvQ Cx 28 [.agg (cW w),.agg (cSy s)] (Bo (bR&&bF)):=by
 have h1:=iP w
 have hlen:=iO wo
 have z1:∀ H,bQ (freeze H 19) (cW w)=some (cW w):=fun H=>eK H 18 _ (gY w)
 have z2:=dJ _ (gY w)
 have z3:∀ H,bQ (freeze H 19) (cSy s)=some (cSy s):=fun H=>eK H 18 _ (gO s)
 have z4:=dJ _ (gO s)
 have o2:=@fJ s
 have l2:=@fQ s
 have tw:List.take 585 (cW w)=cW w:=List.take_of_length_le (by omega)
 have tS:List.take 69 (cSy s)=cSy s:=List.take_of_length_le (by omega)
 generalize cW w=WW at *
 generalize cSy s=SS at *
 refine aX bAy rfl (by simp[aBh]) ?_
 cases bR with
 |false=>simp(disch:=omega)only[go_sem,simprocAttr,h1,hlen,z1,z2,o2,tw,QK.use hR]
 |true =>
  have hF:=hF rfl
  simp(disch:=omega)only[go_sem,simprocAttr,h1,hlen,z1,z2,z3,z4,o2,l2,tw,tS,QK.use hR,QK.use hF]
theorem aBA(wo:w.Ok)(hf:EvQ Cx 28 [.agg (cW w),.agg (cSy s)] (Bo false)):EvQ Cx 8 [.agg (cW w),.agg (cSy s)] (.sl 0 []):=by
 have h1:=iP w
 have hlen:=iO wo
 have z1:∀ H,bQ (freeze H 19) (cW w)=some (cW w):=fun H=>eK H 18 _ (gY w)
 have z2:=dJ _ (gY w)
 have z3:∀ H,bQ (freeze H 19) (cSy s)=some (cSy s):=fun H=>eK H 18 _ (gO s)
 have z4:=dJ _ (gO s)
 have o2:=@fJ s
 have l2:=@fQ s
 have tw:List.take 585 (cW w)=cW w:=List.take_of_length_le (by omega)
 have tS:List.take 69 (cSy s)=cSy s:=List.take_of_length_le (by omega)
 generalize cW w=WW at *
 generalize cSy s=SS at *
 refine aX bAQ rfl (by simp[fn8]) ?_
 simp(disch:=omega)only[go_sem,simprocAttr,h1,hlen,z1,z2,z3,z4,o2,l2,tw,tS,QK.use hf]
theorem YB(W:w.Run n)(ts:s.Typ n)(hnl:s.net.length≤64)(hf:EvQ Cx 28 [.agg (cW w),.agg (cSy s)] (Bo true)){os:List Nat}(hN:EvQ Cx 64 [.sl s.net.length (cells cM s.net),I8 w.net] (.sl os.length (cells cJ os)))(hos:∀ i∈os,i<s.net.length)(hol:os.length≤64){E:Sp→Int}(hE:∀ x:Sp,x.Ok→∀ [Kst] {ow:Bool} {rb mb:Nat} {vc vk vd:A} {H:aG},Rn ow w s rb mb vc vk vd [] H→bW Cx 31 [.ptr rb 0,eS x] H (pF w n rb mb ow (E x) H)):EvQ Cx 8 [.agg (cW w),.agg (cSy s)] (.sl (okS E n w.lines (iD s.net os)).length (cells cS (okS E n w.lines (iD s.net os)))):=by
 have h1:=iP w
 have hlen:=iO W.ok
 have z1:∀ H,bQ (freeze H 19) (cW w)=some (cW w):=fun H=>eK H 18 _ (gY w)
 have z2:=dJ _ (gY w)
 have z3:∀ H,bQ (freeze H 19) (cSy s)=some (cSy s):=fun H=>eK H 18 _ (gO s)
 have z4:=dJ _ (gO s)
 have o2:=@fJ s
 have l2:=@fQ s
 have tw:List.take 585 (cW w)=cW w:=List.take_of_length_le (by omega)
 have tS:List.take 69 (cSy s)=cSy s:=List.take_of_length_le (by omega)
 have hb:∀{H:aG},_:=fun {H:aG}=>IH (s:=s) (vc:=.sl s.cores.length (cells cK s.cores)) (vk:=.sl s.caches.length (cells cC s.caches)) W.ok rfl rfl (H:=H)
 change ∀{H:aG},bW Cx 29 [.agg (cW w),.agg (cSy s)] H _ at hb
 refine aX bAQ rfl (by simp[fn8]) ?_
 generalize cW w=WW at *
 generalize cSy s=SS at *
 simp(disch:=omega)only[go_sem,simprocAttr,h1,hlen,z1,z2,z3,z4,o2,l2,tw,tS,QK.use hf]
 refine aM hb ?_
 rintro y K ⟨l,rb,mb,rfl,rfl,hr,hm⟩
 simp(disch:=omega)only[go_sem,simprocAttr,lM,oI,gP,aK a74 a6g]
 have e0:([some ⟨44,WW,true⟩,some ⟨58,SS,true⟩]++l:aG).length=l.length+2:=by simp
 letI:Kst:=⟨1,SS⟩
 have R0:Rn false w s rb mb (.sl s.cores.length (cells cK s.cores)) (.sl s.caches.length (cells cC s.caches)) (.v (.slice none 0 0)) [] ([some ⟨44,WW,true⟩,some ⟨58,SS,true⟩]++l):=⟨hr,hm,rfl,rfl,.inl ⟨rfl,rfl⟩,rfl⟩
 have S0:SI w s rb mb (l.length+2) (l.length+3) (l.length+4) (l.length+5) (.sl s.cores.length (cells cK s.cores)) (.sl s.caches.length (cells cC s.caches)) (([some ⟨44,WW,true⟩,some ⟨58,SS,true⟩]++l)++[some ⟨101,[.ptr rb 0],true⟩,some ⟨65,[.v (.slice none 0 0)],true⟩,some ⟨101,[.ptr rb 0],true⟩,some ⟨0,[.lrec 36 [19] [5,6] C1 C3,I64 0,I64 0,.ptr (l.length+2) 0,.ptr (l.length+3) 0],true⟩]) []:=by
  have q:∀(t:aG) (k:Nat),(([some ⟨44,WW,true⟩,some ⟨58,SS,true⟩]++l:aG)++t)[l.length+2+k]?=t[k]?:=fun t k=>by
   have:=aZ ([some ⟨44,WW,true⟩,some ⟨58,SS,true⟩]++l:aG) t k
   rwa [e0]at this
  exact⟨⟨R0.app _,q _ 0,q _ 2,⟨_,q _ 1⟩,q _ 3⟩,_,q _ 1,.inl ⟨rfl,rfl⟩⟩
 refine bW.mono (aAa W ts hnl (fun S hl x xo=>aBz W hE S hl xo) hN hos hol S0) ?_
 rintro y K' ⟨S',v,hv,hl⟩
 have hR:=S'.rec_
 generalize okS E n w.lines (iD s.net os)=R at *
 rcases hl with⟨rfl,rfl⟩|⟨h0,j,rfl,hj⟩
 ·have g1:(K'.set (l.length+3+1+1) none)[l.length+1+1+1]?=_:=aO hv (bO hR hv rfl) none
  simp(disch:=omega)only[go_sem,simprocAttr,kO,cX,bN,pending,exOfN,hR,g1]
  rfl
 ·have g1:(K'.set (l.length+3+1+1) none)[l.length+1+1+1]?=_:=aO hv (bO hR hv rfl) none
  have g2:(K'.set (l.length+3+1+1) none)[j]?=_:=aO hj (bO hR hj rfl) none
  simp(disch:=omega)only[go_sem,simprocAttr,kO,cX,bN,pending,exOfN,hR,g1,g2,rS,FF,aBv,O2]
end
end Go.Proofs.YtpdphobnchajbaaGreatDoor.Ev
