/- sys: the candidates are gone through. -/
import Derived.Test.YtpdphobnchajbaaGreatDoorP49
set_option linter.unusedSimpArgs false
set_option linter.unusedVariables false
namespace Go.Proofs.YtpdphobnchajbaaGreatDoor.Ev
open Go Go.RowKit
set_option maxRecDepth 100000
set_option maxHeartbeats 16000000
def fil(E:Sp→Int)(R:List Sp):List Sp:=R.filter fun x=>!dis (E x)
theorem fil_cons(E:Sp→Int)(x:Sp)(R:List Sp)(l:List Sp):l++fil E (x::R)=(if dis (E x)=true then l else l++[x])++fil E R:=by
 unfold fil
 rw[List.filter_cons]
 cases h:dis (E x)
 ·simp
 ·simp
theorem fil_len(E:Sp→Int)(R:List Sp):(fil E R).length≤R.length:=List.length_filter_le ..
def nodesFrom(k:Int)(i:Nat):Nat→List Sp
 |0=>[]
 |d+1=>⟨k,i,0,zMg⟩::nodesFrom k (i+1) d
theorem nodesFrom_eq(k:Int):∀ d i,nodesFrom k i d=(List.range' i d).map fun j:Nat=>⟨k,(j:Int),0,zMg⟩
 |0,i=>rfl
 |d+1,i=>by rw[nodesFrom,nodesFrom_eq k d (i+1)];rfl
theorem nodesFrom_all(k:Int)(n:Nat):nodesFrom k 0 n=nodeS k n:=by
 rw[nodesFrom_eq]
 unfold nodeS
 rw[List.range_eq_range']
def linesFrom(i j:Nat):Nat→List Sp
 |0=>[]
 |d+1=>⟨4,i,j,zMg⟩::linesFrom i (j+1) d
theorem linesFrom_eq(i:Nat):∀ d j,linesFrom i j d=(List.range' j d).map fun j:Nat=>⟨4,(i:Int),(j:Int),zMg⟩
 |0,j=>rfl
 |d+1,j=>by rw[linesFrom,linesFrom_eq i d (j+1)];rfl
theorem linesFrom_all(i L:Nat):linesFrom i 0 L=lineS L i:=by
 rw[linesFrom_eq]
 unfold lineS
 rw[List.range_eq_range']
def evFrom(L i:Nat):Nat→List Sp
 |0=>[]
 |d+1=>lineS L i++evFrom L (i+1) d
theorem evFrom_eq(L:Nat):∀ d i,evFrom L i d=(List.range' i d).flatMap (lineS L)
 |0,i=>rfl
 |d+1,i=>by rw[evFrom,evFrom_eq L d (i+1)];rfl
theorem evFrom_all(L n:Nat):evFrom L 0 n=evS n L:=by
 rw[evFrom_eq]
 unfold evS
 rw[List.range_eq_range']
theorem zMg_ok:zMg.Ok:=by constructor<;>first|decide|(constructor<;>decide)
section
variable{w:Wo}{s:Sy}{n:Nat}{rb mb rp lp cp B:Nat}{vc vk:A}{E:Sp→Int}
def YOk[Kst](w:Wo)(s:Sy)(rb mb rp lp cp B:Nat)(vc vk:A)(E:Sp→Int):Prop:=∀{K:Heap} {l:List Sp},SI w s rb mb rp lp cp B vc vk K l→l.length≤1000→∀{x:Sp},x.Ok→CallY Cx B [eS x] K fun y K'=>y=Bo true∧SI w s rb mb rp lp cp B vc vk K' (if dis (E x)=true then l else l++[x])∧Kps K K'
theorem ite_len(E:Sp→Int)(l:List Sp)(x:Sp):(if dis (E x)=true then l else l++[x]).length≤l.length+1:=by
 split
 ·omega
 ·simp
theorem node_loop[Kst](Y:YOk w s rb mb rp lp cp B vc vk E)(n4:n≤4){kind:Int}(k1:1≤kind)(k5:kind≤5){T:A}{t:Int}{KK:List It}{Q:Ex→Ev.St→Prop} :
  ∀(d i:Nat) (K:Heap) (l:List Sp),i+d=n→SI w s rb mb rp lp cp B vc vk K l→l.length+d≤1000→(∀ K,SI w s rb mb rp lp cp B vc vk K (l++fil E (nodesFrom kind i d))→UnwK Cx (.out 2) KK ⟨[(26,Bo false),(0,.yl B),(1,.ptr cp 0),(3,I8 n),(5,I8 kind),(20,T),(21,I64 t),(24,I8 n),(25,I8 n)],K⟩ Q) →
   RunK Cx (.code (.loop m63_l1)::KK) ⟨[(0,.yl B),(1,.ptr cp 0),(3,I8 n),(5,I8 kind),(20,T),(21,I64 t),(24,I8 n),(25,I8 i)],K⟩ Q:=by
 intro d
 induction d with
 |zero =>
  intro i K l hi S hl hE
  obtain rfl:i=n:=by omega
  rw[runK_loop]
  simp(disch:=omega)only[go_sem,simprocAttr,Int.lt_irrefl]
  have:=hE K (by simpa[nodesFrom,fil]using S)
  exact this
 |succ d ih =>
  intro i K l hi S hl hE
  rw[nodesFrom,fil_cons]at hE
  have xo:(Sp.mk kind i 0 zMg).Ok:=⟨⟨by simp only;omega,by simp only;omega⟩,⟨by simp only;omega,by simp only;omega⟩,by simp,zMg_ok⟩
  rw[runK_loop]
  simp(disch:=omega)only[go_sem,simprocAttr,anyK_yl]
  refine ylK_use (Y S (by omega) xo) ?_
  rintro y K' ⟨rfl,S',-⟩
  simp(disch:=omega)only[go_sem,simprocAttr]
  rw[loop_norm (l:=[0,1,3,5,20,21,24,25]) rfl]
  simp(disch:=omega)only[go_sem,simprocAttr]
  have nx:=ih (i+1) K' _ (by omega) S' (by have:=ite_len E l ⟨kind,i,0,zMg⟩;omega) hE
  rw[Int.natCast_add,Int.natCast_one]at nx
  exact nx
theorem line_loop[Kst](Y:YOk w s rb mb rp lp cp B vc vk E){i L:Nat}(i4:i<4)(L6:L≤6){t36 t37:A}{KK:List It}{Q:Ex→Ev.St→Prop} :
  ∀(d j:Nat) (K:Heap) (l:List Sp),j+d=L→SI w s rb mb rp lp cp B vc vk K l→l.length+d≤1000→(∀ K,SI w s rb mb rp lp cp B vc vk K (l++fil E (linesFrom i j d))→UnwK Cx (.out 6) KK ⟨[(48,Bo false),(0,.yl B),(1,.ptr cp 0),(7,I8 i),(36,t36),(37,t37),(46,I8 L),(47,I8 L)],K⟩ Q) →
   RunK Cx (.code (.loop m63_l3)::KK) ⟨[(0,.yl B),(1,.ptr cp 0),(7,I8 i),(36,t36),(37,t37),(46,I8 L),(47,I8 j)],K⟩ Q:=by
 intro d
 induction d with
 |zero =>
  intro j K l hi S hl hE
  obtain rfl:j=L:=by omega
  rw[runK_loop]
  simp(disch:=omega)only[go_sem,simprocAttr,Int.lt_irrefl]
  have:=hE K (by simpa[linesFrom,fil]using S)
  exact this
 |succ d ih =>
  intro j K l hi S hl hE
  rw[linesFrom,fil_cons]at hE
  have xo:(Sp.mk 4 i j zMg).Ok:=⟨⟨by simp only;omega,by simp only;omega⟩,⟨by simp only;omega,by simp only;omega⟩,⟨by simp only;omega,by simp only;omega⟩,zMg_ok⟩
  rw[runK_loop]
  simp(disch:=omega)only[go_sem,simprocAttr,anyK_yl]
  refine ylK_use (Y S (by omega) xo) ?_
  rintro y K' ⟨rfl,S',-⟩
  simp(disch:=omega)only[go_sem,simprocAttr]
  rw[loop_norm (l:=[0,1,7,36,37,46,47]) rfl]
  simp(disch:=omega)only[go_sem,simprocAttr]
  have nx:=ih (j+1) K' _ (by omega) S' (by have:=ite_len E l ⟨4,i,j,zMg⟩;omega) hE
  rw[Int.natCast_add,Int.natCast_one]at nx
  exact nx
end
theorem fil_app(E:Sp→Int)(a b:List Sp):fil E (a++b)=fil E a++fil E b:=List.filter_append ..
theorem lineS_len(L i:Nat):(lineS L i).length=L:=by
 unfold lineS
 simp
theorem eqB_comm(x y:Mg):x.eqB y=y.eqB x:=by
 rw[Bool.eq_iff_iff,Mg.eqB_iff,Mg.eqB_iff]
 exact eq_comm
theorem index_ex{m:Mg}{l:List Mg}(hl:l.length≤200):∃ y,EvQ Cx 128 [.sl l.length (cells cM l),eM m] y∧∃ i:Int,y=I64 i∧decide (0≤i)=memM m l∧-1≤i∧i≤200:=by
 have loop:∀(d j:Nat),j+d=l.length→RunK Cx [.code (.loop m128_l0),.blk 0,.code (.seq (.reg [] [⟨some 4,.assign (.const (.int .i64 (-1))),none⟩] 0) .ret)] ⟨[(0,.sl l.length (cells cM l)),(3,.ptr 0 0),(7,I64 l.length),(8,I64 j)],[some ⟨60,cM m,true⟩]⟩ (FinG Cx.T .shut [.tmp 4] fun y=>∃ i:Int,y=I64 i∧decide (0≤i)=memM m (l.drop j)∧-1≤i∧i≤200):=by
  intro d
  induction d with
  |zero =>
   intro j hj
   obtain rfl:j=l.length:=by omega
   rw[List.drop_length]
   rw[runK_loop]
   simp(disch:=omega)only[go_sem,simprocAttr,Int.lt_irrefl,memM]
  |succ d ih =>
   intro j hj
   obtain⟨x,hx⟩:∃ x,l[j]?=some x:=⟨_,List.getElem?_eq_getElem (by omega)⟩
   have hd:l.drop j=x::l.drop (j+1):=drop_get hx
   obtain⟨rr,hr⟩:=cells_at (c:=cM) (n:=11) (fun _=>rfl) hx
   have nx:=ih (j+1) (by omega)
   rw[Int.natCast_add,Int.natCast_one]at nx
   have he:=mg_eqT m x
   rw[hd,memM,← eqB_comm m x]
   rw[runK_loop]
   cases hb:m.eqB x with
   |true =>
    rw[hb]at he
    simp(disch:=omega)only[↓ he,go_sem,simprocAttr,hr]
    omega
   |false =>
    rw[hb]at he
    simp(disch:=omega)only[↓ he,go_sem,simprocAttr,hr]
    rw[loop_norm (l:=[0,3,7,8]) rfl]
    simp(disch:=omega)only[go_sem,simprocAttr]
    exact nx
 refine evG_of CxB128 rfl (by simp[fn128]) ?_
 simp(disch:=omega)only[go_sem,simprocAttr]
 rw[loop_norm (l:=[0,3,7,8]) rfl]
 simp(disch:=omega)only[go_sem,simprocAttr]
 have:=loop l.length 0 (by omega)
 rw[List.drop_zero]at this
 exact this
theorem contains_ev{m:Mg}{l:List Mg}(hl:l.length≤200):EvQ Cx 65 [.sl l.length (cells cM l),eM m] (Bo (memM m l)):=by
 obtain⟨_,hi,i,rfl,h1,h2,h3⟩:=index_ex (m:=m) hl
 refine evQ_of CxB65 rfl (by simp[fn65]) ?_
 simp(disch:=omega)only[go_sem,simprocAttr,QK.use hi]
 rw[← h1]
theorem contains_nil{m:Mg}:EvQ Cx 65 [.v (.slice none 0 0),eM m] (Bo false):=by
 have hi:EvQ Cx 128 [.v (.slice none 0 0),eM m] (I64 (-1)):=by
  refine evQ_of CxB128 rfl (by simp[fn128]) ?_
  simp(disch:=omega)only[go_sem,simprocAttr]
  rw[loop_norm (l:=[0,3,7,8]) rfl]
  simp(disch:=omega)only[go_sem,simprocAttr]
  rw[runK_loop]
  simp(disch:=omega)only[go_sem,simprocAttr]
 refine evQ_of CxB65 rfl (by simp[fn65]) ?_
 simp(disch:=omega)only[go_sem,simprocAttr,QK.use hi]
section
variable{w:Wo}{s:Sy}{n:Nat}{rb mb rp lp cp B:Nat}{vc vk:A}{E:Sp→Int}
theorem evict_loop[Kst](W:w.Run n)(Y:YOk w s rb mb rp lp cp B vc vk E){KK:List It}{Q:Ex→Ev.St→Prop} :
  ∀(d i:Nat) (K:Heap) (l:List Sp),i+d=n→SI w s rb mb rp lp cp B vc vk K l→l.length+d*6≤1000→(∀ K,SI w s rb mb rp lp cp B vc vk K (l++fil E (evFrom w.lines i d))→UnwK Cx (.out 4) KK ⟨[(38,Bo false),(0,.yl B),(1,.ptr cp 0),(36,I8 n),(37,I8 n)],K⟩ Q) →
   RunK Cx (.code (.loop m63_l2)::KK) ⟨[(0,.yl B),(1,.ptr cp 0),(36,I8 n),(37,I8 i)],K⟩ Q:=by
 intro d
 have n4:=W.n4
 have wT:=W.ok.T
 have hL:=glines W.good.geo
 have d1:0≤5/w.o:=Int.ediv_nonneg (by omega) (by have:=W.good.geo.2.2.2.2.1;omega)
 have hl:((w.lines:Nat):Int)=5/w.o+1:=by unfold Wo.lines;omega
 have lines0:((w.lines:Nat):Int)≤6:=by
  rw[hl]
  have:=Int.ediv_le_self (a:=5) w.o (by omega)
  omega
 rw[← hl]at hL
 clear hl d1
 generalize w.lines=L at *
 induction d with
 |zero =>
  intro i K l hi S hl hE
  obtain rfl:i=n:=by omega
  rw[runK_loop]
  simp(disch:=omega)only[go_sem,simprocAttr,Int.lt_irrefl]
  have:=hE K (by simpa[evFrom,fil]using S)
  exact this
 |succ d ih =>
  intro i K l hi S hl hE
  have hc:=S.1.hcp
  have Hb:=S.1.rn.at_
  rw[evFrom,fil_app]at hE
  rw[runK_loop]
  simp(disch:=omega)only[go_sem,simprocAttr,Hb,r10,r15,hc,QK.use hL]
  rw[loop_norm (l:=[0,1,7,36,37,46,47]) rfl]
  simp(disch:=omega)only[go_sem,simprocAttr]
  refine line_loop Y (by omega) (by omega) L 0 K l (by omega) S (by omega) ?_
  intro K' S'
  rw[linesFrom_all]at S'
  simp(disch:=omega)only[go_sem,simprocAttr]
  rw[loop_norm (l:=[0,1,36,37]) rfl]
  simp(disch:=omega)only[go_sem,simprocAttr]
  have nx:=ih (i+1) K' _ (by omega) S' (by have:=fil_len E (lineS L i);rw[lineS_len]at this;rw[List.length_append];omega) (fun K h=>hE K (by rw[List.append_assoc]at h;exact h))
  rw[Int.natCast_add,Int.natCast_one]at nx
  exact nx
def SeenV(K:Heap)(v:A)(l:List Mg):Prop:=(l=[]∧v=.v (.slice none 0 0))∨(l≠[]∧∃ j,v=.ref j 0 l.length 11∧K[j]?=some (some ⟨60,cells cM l,false⟩))
theorem SeenV.kps{K K':Heap}{v:A}{l:List Mg}(h:SeenV K v l)(k:Kps K K'):SeenV K' v l:=by
 rcases h with h|⟨h0,j,h1,h2⟩
 ·exact .inl h
 ·exact .inr ⟨h0,j,h1,k j _ h2⟩
theorem SeenV.app{K:Heap}{v:A}{l:List Mg}(h:SeenV K v l)(t:Heap):SeenV (K++t) v l:=h.kps fun _ _ h=>low_app h t
theorem SI.row[Kst]{K:Heap}{l:List Sp}(S:SI w s rb mb rp lp cp B vc vk K l){j:Nat}{cs:List A}(hj:K[j]?=some (some ⟨60,cs,false⟩))(X:Option Blk):SI w s rb mb rp lp cp B vc vk (K.set j X) l:=by
 obtain⟨S,v,h,hv⟩:=S
 refine⟨⟨S.rn.other hj rfl X,low_set S.hrp (ne_el hj S.hrp rfl) X,low_set S.hcp (ne_el hj S.hcp rfl) X,⟨v,low_set h (ne_el hj h rfl) X⟩,low_set S.rec_ (ne_el hj S.rec_ rfl) X⟩,v,low_set h (ne_el hj h rfl) X,?_⟩
 rcases hv with hv|⟨h0,j',h1,h2⟩
 ·exact .inl hv
 ·exact .inr ⟨h0,j',h1,low_set h2 (ne_el hj h2 rfl) X⟩
theorem cM_snoc(l:List Mg)(x:Mg):cells cM l++cM x=cells cM (l++[x]):=by
 rw[cells_app,cells,cells,List.append_nil]
theorem msg_loop[Kst](wT:w.T.Ok)(ts:s.Typ n)(hnl:s.net.length≤64)(Y:YOk w s rb mb rp lp cp B vc vk E){os:List Nat}(ho:∀ i∈os,i<s.net.length)(hol:os.length≤64){KK:List It}{Q:Ex→Ev.St→Prop} :
  ∀(d j:Nat) (K:Heap) (l:List Sp) (v:A) (seen:List Mg),j+d=os.length→SI w s rb mb rp lp cp B vc vk K l→l.length+d≤1000→SeenV K v seen→seen.length≤j→(∀ K v,SI w s rb mb rp lp cp B vc vk K (l++fil E (msgS (dd seen (nextM s.net (os.drop j)))))→UnwK Cx (.out 8) KK ⟨[(72,Bo false),(0,.yl B),(1,.ptr cp 0),(9,v),(69,.sl os.length (cells cJ os)),(70,I64 os.length),(71,I64 os.length)],K⟩ Q) →
   RunK Cx (.code (.loop m63_l4)::KK) ⟨[(0,.yl B),(1,.ptr cp 0),(9,v),(69,.sl os.length (cells cJ os)),(70,I64 os.length),(71,I64 j)],K⟩ Q:=by
 intro d
 induction d with
 |zero =>
  intro j K l v seen hj S hl hv hs hE
  obtain rfl:j=os.length:=by omega
  rw[List.drop_length]at hE
  rw[runK_loop]
  simp(disch:=omega)only[go_sem,simprocAttr,Int.lt_irrefl]
  have:=hE K v (by simpa[nextM,dd,msgS,fil]using S)
  exact this
 |succ d ih =>
  intro j K l v seen hj S hl hv hs hE
  obtain⟨i,hi⟩:∃ i,os[j]?=some i:=⟨_,List.getElem?_eq_getElem (by omega)⟩
  obtain⟨x,hx⟩:∃ x,s.net[i]?=some x:=⟨_,List.getElem?_eq_getElem (ho i (List.mem_of_getElem? hi))⟩
  have hil:=(List.getElem?_eq_some_iff.1 hx).1
  have hd:nextM s.net (os.drop j)=x::nextM s.net (os.drop (j+1)):=by
   rw[drop_get hi]
   unfold nextM
   rw[List.filterMap_cons,hx]
  rw[hd,dd]at hE
  obtain⟨r1,hr1⟩:=cJ_at hi
  obtain⟨rr,hr⟩:=cells_at (c:=cM) (n:=11) (fun _=>rfl) hx
  have hc:=S.1.hcp
  have Hb:=S.1.rn.at_
  have xo:(Sp.mk 5 0 0 x).Ok:=⟨⟨by simp,by simp⟩,⟨by simp,by simp⟩,⟨by simp,by simp⟩,ts.net x (List.mem_of_getElem? hx)⟩
  have hC:EvQ Cx 65 [.sl seen.length (cells cM seen),eM x] (Bo (memM x seen)):=contains_ev (by omega)
  have hC0:=contains_nil (m:=x)
  rw[runK_loop]
  rcases hv with⟨rfl,rfl⟩|⟨h0,j',rfl,hj'⟩
  ·simp(disch:=omega)only[go_sem,simprocAttr,Hb,(r653 wT),(r654 wT),(r655 wT),hc,hr1,hr,Nat.mul_one,QK.use hC0,anyK_yl]
   refine ylK_use (Y (S.app _) (by omega) xo) ?_
   rintro y K' ⟨rfl,S',k'⟩
   simp(disch:=omega)only[go_sem,simprocAttr]
   rw[loop_norm (l:=[0,1,9,69,70,71]) rfl]
   simp(disch:=omega)only[go_sem,simprocAttr]
   rw[show memM x []=false from rfl,cond_false]at hE
   have nx:=ih (j+1) K' _ (.ref (K.length+2) 0 1 11) [x] (by omega) S' (by have:=ite_len E l ⟨5,0,0,x⟩;omega) (.inr ⟨by simp,_,rfl,k' _ _ ((ap_getk' K _ 2).trans rfl)⟩) (by simp) (fun K v h=>hE K v (by
    rw[List.nil_append,msgS,List.map_cons,fil_cons]
    exact h))
   rw[Int.natCast_add,Int.natCast_one]at nx
   exact nx
  ·cases hm:memM x seen with
   |true =>
    rw[hm,cond_true]at hE
    rw[hm]at hC
    simp(disch:=omega)only[go_sem,simprocAttr,Hb,(r653 wT),(r654 wT),(r655 wT),hc,hr1,hr,Nat.mul_one,low_app hj',cM_len,cM_take,cM_fz,QK.use hC]
    rw[loop_norm (l:=[0,1,9,69,70,71]) rfl]
    simp(disch:=omega)only[go_sem,simprocAttr]
    have nx:=ih (j+1) (K++[some ⟨60,cM x,true⟩]) _ (.ref j' 0 seen.length 11) seen (by omega) (S.app _) (by omega) (.inr ⟨h0,_,rfl,low_app hj' _⟩) (by omega) hE
    rw[Int.natCast_add,Int.natCast_one]at nx
    exact nx
   |false =>
    rw[hm,cond_false]at hE
    rw[hm]at hC
    have hjl:=(List.getElem?_eq_some_iff.1 hj').1
    have sj:∀ T,(K++T).set j' none=K.set j' none++T:=fun T=>set_lowA hjl _ _
    have g0:∀ T,(K.set j' none++T)[K.length]?=T[0]?:=fun T=>as_getk K T j' none 0
    simp(disch:=omega)only[go_sem,simprocAttr,Hb,(r653 wT),(r654 wT),(r655 wT),hc,hr1,hr,Nat.mul_one,low_app hj',sj,g0,List.append_assoc,List.cons_append,cM_len,cM_take,cM_fz,cM_snoc,maxLen,QK.use hC,anyK_yl]
    refine ylK_use (Y ((S.row hj' none).app _) (by omega) xo) ?_
    rintro y K' ⟨rfl,S',k'⟩
    simp(disch:=omega)only[go_sem,simprocAttr]
    rw[loop_norm (l:=[0,1,9,69,70,71]) rfl]
    simp(disch:=omega)only[go_sem,simprocAttr]
    have nx:=ih (j+1) K' _ (.ref (K.length+2) 0 (seen.length+1) 11) (seen++[x]) (by omega) S' (by have:=ite_len E l ⟨5,0,0,x⟩;omega) (.inr ⟨by simp,_,by rw[List.length_append];rfl,k' _ _ (as_getk K _ j' none 2)⟩) (by simp;omega) (fun K v h=>hE K v (by
     rw[msgS,List.map_cons,fil_cons]
     exact h))
    rw[Int.natCast_add,Int.natCast_one]at nx
    exact nx
end
theorem evFrom_len(L i:Nat):∀ d,(evFrom L i d).length=d*L
 |0=>by simp[evFrom]
 |d+1=>by rw[evFrom,List.length_append,evFrom_len L (i+1) d,lineS_len,Nat.add_mul];omega
section
variable{w:Wo}{s:Sy}{n:Nat}{rb mb rp lp cp B:Nat}{vc vk:A}{E:Sp→Int}
theorem cand_run[Kst](W:w.Run n)(ts:s.Typ n)(hnl:s.net.length≤64)(Y:YOk w s rb mb rp lp cp B vc vk E){os:List Nat}(hN:EvQ Cx 64 [.sl s.net.length (cells cM s.net),I8 w.net] (.sl os.length (cells cJ os)))(ho:∀ i∈os,i<s.net.length)(hol:os.length≤64){K:Heap}(S:SI w s rb mb rp lp cp B vc vk K []) :
  CallK Cx 63 [.yl B,.ptr cp 0] K fun _ K'=>SI w s rb mb rp lp cp B vc vk K' (okS E n w.lines (nextM s.net os)):=by
 have n4:=W.n4
 have wT:=W.ok.T
 have wn:=W.n
 have hc:=S.1.hcp
 have Hb:=S.1.rn.at_
 have lines0:w.lines≤6:=by
  unfold Wo.lines
  have:=Int.ediv_le_self (a:=5) w.o (by omega)
  omega
 have f1:∀ k,(fil E (nodeS k n)).length≤n:=fun k=>by
  have:=fil_len E (nodeS k n)
  unfold nodeS at this ⊢
  simpa using this
 have f4:(fil E (evS n w.lines)).length≤24:=by
  have:=fil_len E (evS n w.lines)
  rw[← evFrom_all,evFrom_len]at this
  have h2:n*w.lines≤4*6:=Nat.mul_le_mul n4 lines0
  rw[← evFrom_all]
  omega
 have f1a:=f1 1
 have f1b:=f1 2
 have f1c:=f1 3
 rw[callK_in CxB63 CxP63];refine⟨by simp[fn63],?_⟩
 simp(disch:=omega)only[go_sem,simprocAttr,Hb,r10,r15,hc]
 rw[← wn]
 rw[loop_norm (l:=[0,1,3,20,21]) rfl]
 simp(disch:=omega)only[go_sem,simprocAttr]
 rw[runK_loop]
 simp(disch:=omega)only[go_sem,simprocAttr]
 rw[loop_norm (l:=[0,1,3,5,20,21,24,25]) rfl]
 simp(disch:=omega)only[go_sem,simprocAttr]
 refine node_loop (n:=n) Y n4 (kind:=1) (by omega) (by omega) n 0 _ _ (by omega) S (by simp;omega) ?_
 intro K1 S1
 rw[nodesFrom_all]at S1
 simp(disch:=omega)only[go_sem,simprocAttr]
 rw[loop_norm (l:=[0,1,3,20,21]) rfl]
 simp(disch:=omega)only[go_sem,simprocAttr]
 rw[runK_loop]
 simp(disch:=omega)only[go_sem,simprocAttr]
 rw[loop_norm (l:=[0,1,3,5,20,21,24,25]) rfl]
 simp(disch:=omega)only[go_sem,simprocAttr]
 refine node_loop (n:=n) Y n4 (kind:=2) (by omega) (by omega) n 0 _ _ (by omega) S1 (by simp only[List.length_append,List.length_nil];omega) ?_
 intro K2 S2
 rw[nodesFrom_all]at S2
 simp(disch:=omega)only[go_sem,simprocAttr]
 rw[loop_norm (l:=[0,1,3,20,21]) rfl]
 simp(disch:=omega)only[go_sem,simprocAttr]
 rw[runK_loop]
 simp(disch:=omega)only[go_sem,simprocAttr]
 rw[loop_norm (l:=[0,1,3,5,20,21,24,25]) rfl]
 simp(disch:=omega)only[go_sem,simprocAttr]
 refine node_loop (n:=n) Y n4 (kind:=3) (by omega) (by omega) n 0 _ _ (by omega) S2 (by simp only[List.length_append,List.length_nil];omega) ?_
 intro K3 S3
 rw[nodesFrom_all]at S3
 simp(disch:=omega)only[go_sem,simprocAttr]
 rw[loop_norm (l:=[0,1,3,20,21]) rfl]
 simp(disch:=omega)only[go_sem,simprocAttr]
 rw[runK_loop]
 simp(disch:=omega)only[go_sem,simprocAttr]
 rw[loop_norm (l:=[0,1,36,37]) rfl]
 simp(disch:=omega)only[go_sem,simprocAttr]
 refine evict_loop W Y n 0 _ _ (by omega) S3 (by simp only[List.length_append,List.length_nil];omega) ?_
 intro K4 S4
 rw[evFrom_all]at S4
 have hc4:=S4.1.hcp
 have Hb:=S4.1.rn.at_
 simp(disch:=omega)only[go_sem,simprocAttr,Hb,r15,(r20 wT),(r585 wT),(r586 wT),(r653 wT),(r654 wT),(r655 wT),hc4,QK.use hN]
 rw[loop_norm (l:=[0,1,9,69,70,71]) rfl]
 simp(disch:=omega)only[go_sem,simprocAttr]
 refine msg_loop wT ts hnl Y ho hol os.length 0 K4 _ _ [] (by omega) S4 (by simp only[List.length_append,List.length_nil];omega) (.inl ⟨rfl,rfl⟩) (by simp) ?_
 intro K5 v S5
 rw[List.drop_zero]at S5
 simp(disch:=omega)only[go_sem,simprocAttr,endK_go]
 have e:okS E n w.lines (nextM s.net os)=[]++fil E (nodeS 1 n)++fil E (nodeS 2 n)++fil E (nodeS 3 n)++fil E (evS n w.lines)++fil E (msgS (dd [] (nextM s.net os))):=by
  show fil E (cands n w.lines (nextM s.net os))=_
  unfold cands
  simp only[fil_app,List.append_assoc,List.nil_append]
 rw[e]
 exact S5
end
theorem w10(w:Wo):List.drop 10 (cW w)=I64 w.c::I64 w.h::I64 w.o::I64 w.s::I64 w.y::List.drop 15 (cW w):=by
 obtain⟨c0,c1,c2,c3,c4,hc⟩:=cPg_ex w.P
 unfold cW cPg Pg.low Wo.gr
 rw[hc]
 rfl
section
variable{w:Wo}{s:Sy}
theorem s1:List.drop 1 (cSy s)=.sl s.caches.length (cells cC s.caches)::List.drop 2 (cSy s):=rfl
theorem s68:List.drop 68 (cSy s)=[.sl s.net.length (cells cM s.net)]:=rfl
theorem s0:(cSy s)[0]?=some (.sl s.cores.length (cells cK s.cores)):=rfl
theorem cSy_len:(cSy s).length=69:=rfl
theorem cSy_one:ones (cSy s)=true:=by
 unfold cSy cSy3
 simp only[ones,one,Bool.true_and]
 exact ones_app _ _ (dirs_one s) rfl
theorem fcore_loop{WW SS:List A}{T:Heap}(s0:SS[0]?=some (.sl s.cores.length (cells cK s.cores)))(l2:SS.length=69)(lc:s.cores.length≤4){KK:List It}{Q:Ex→Ev.St→Prop}(hF:UnwK Cx .back KK ⟨[(4,Bo false)],some ⟨44,WW,true⟩::some ⟨58,SS,true⟩::T⟩ Q)(hE:(∀ c∈s.cores,c.buf.length≤255)→UnwK Cx (.out 0) KK ⟨[(41,Bo false),(3,.ptr 1 0),(39,I64 s.cores.length),(40,I64 s.cores.length)],some ⟨44,WW,true⟩::some ⟨58,SS,true⟩::T⟩ Q)(hb:∀ c∈s.cores,c.buf.length≤140737488351232) :
  ∀(d i:Nat),i+d=s.cores.length→(∀ c∈s.cores.take i,c.buf.length≤255)→RunK Cx (.code (.loop m10_l0)::KK) ⟨[(3,.ptr 1 0),(39,I64 s.cores.length),(40,I64 i)],some ⟨44,WW,true⟩::some ⟨58,SS,true⟩::T⟩ Q:=by
 intro d
 induction d with
 |zero =>
  intro i hi h
  obtain rfl:i=s.cores.length:=by omega
  rw[List.take_length]at h
  rw[runK_loop]
  simp(disch:=omega)only[go_sem,simprocAttr,Int.lt_irrefl]
  exact hE h
 |succ d ih =>
  intro i hi h
  obtain⟨c,hc⟩:∃ c,s.cores[i]?=some c:=⟨_,List.getElem?_eq_getElem (by omega)⟩
  obtain⟨rr,hr⟩:=cells_at (c:=cK) (n:=12) (fun _=>rfl) hc
  have hbc:=hb c (List.mem_of_getElem? hc)
  rw[runK_loop]
  by_cases q:c.buf.length≤255
  ·simp(disch:=omega)only[go_sem,simprocAttr,s0,l2,hr]
   rw[loop_norm (l:=[3,39,40]) rfl]
   simp(disch:=omega)only[go_sem,simprocAttr]
   have nx:=ih (i+1) (by omega) (by
    intro c' hc'
    rw[List.take_add_one,hc]at hc'
    rcases List.mem_append.1 hc' with h'|h'
    ·exact h c' h'
    ·obtain rfl:c'=c:=by simpa using h'
     exact q)
   rw[Int.natCast_add,Int.natCast_one]at nx
   exact nx
  ·simp(disch:=omega)only[go_sem,simprocAttr,s0,l2,hr]
   exact hF
theorem fcache_loop{WW SS:List A}(s1:List.drop 1 SS=.sl s.caches.length (cells cC s.caches)::List.drop 2 SS)(l2:SS.length=69)(lc:s.caches.length≤4){KK:List It}{Q:Ex→Ev.St→Prop}(hF:∀ T:Heap,UnwK Cx .back KK ⟨[(4,Bo false)],some ⟨44,WW,true⟩::some ⟨58,SS,true⟩::T⟩ Q)(hE:∀ T:Heap,UnwK Cx (.out 2) KK ⟨[(56,Bo false),(3,.ptr 1 0),(54,I64 s.caches.length),(55,I64 s.caches.length)],some ⟨44,WW,true⟩::some ⟨58,SS,true⟩::T⟩ Q)(ho:∀ c∈s.caches,c.Ok) :
  ∀(d i:Nat) (T:Heap),i+d=s.caches.length→RunK Cx (.code (.loop m10_l1)::KK) ⟨[(3,.ptr 1 0),(54,I64 s.caches.length),(55,I64 i)],some ⟨44,WW,true⟩::some ⟨58,SS,true⟩::T⟩ Q:=by
 intro d
 induction d with
 |zero =>
  intro i T hi
  obtain rfl:i=s.caches.length:=by omega
  rw[runK_loop]
  simp(disch:=omega)only[go_sem,simprocAttr,Int.lt_irrefl]
  exact hE T
 |succ d ih =>
  intro i T hi
  obtain⟨c,hc⟩:∃ c,s.caches[i]?=some c:=⟨_,List.getElem?_eq_getElem (by omega)⟩
  obtain⟨rr,hr⟩:=cells_at cC_len hc
  have nx:∀ T:Heap,RunK Cx (.code (.loop m10_l1)::KK) ⟨[(3,.ptr 1 0),(54,I64 s.caches.length),(55,I64 ((i:Int)+1))],some ⟨44,WW,true⟩::some ⟨58,SS,true⟩::T⟩ Q:=fun T=>by
   have nx:=ih (i+1) T (by omega)
   rwa [Int.natCast_add,Int.natCast_one]at nx
  rw[runK_loop]
  have co:=ho c (List.mem_of_getElem? hc)
  have w0:=(co.N 0 (by omega)).ways
  have w1:=(co.N 1 (by omega)).ways
  have w2:=(co.N 2 (by omega)).ways
  have w3:=(co.N 3 (by omega)).ways
  have e128:List.drop 128 (cC c++rr)=cR (c.N 0)++(cR (c.N 1)++(cR (c.N 2)++(cR (c.N 3)++(cO c.op++rr)))):=by
   unfold cC
   rfl
  simp(disch:=omega)only[go_sem,simprocAttr,s1,hr,e128]
  rw[loop_norm (l:=[3,54,55,63,64]) rfl]
  simp(disch:=omega)only[go_sem,simprocAttr]
  rw[runK_loop]
  by_cases a0:(c.N 0).ways<0
  ·simp(disch:=omega)only[go_sem,simprocAttr]
   exact hF _
  by_cases b0:255<(c.N 0).ways
  ·simp(disch:=omega)only[go_sem,simprocAttr]
   exact hF _
  simp(disch:=omega)only[go_sem,simprocAttr]
  rw[loop_norm (l:=[3,54,55,63,64]) rfl]
  simp(disch:=omega)only[go_sem,simprocAttr]
  rw[runK_loop]
  by_cases a1:(c.N 1).ways<0
  ·simp(disch:=omega)only[go_sem,simprocAttr]
   exact hF _
  by_cases b1:255<(c.N 1).ways
  ·simp(disch:=omega)only[go_sem,simprocAttr]
   exact hF _
  simp(disch:=omega)only[go_sem,simprocAttr]
  rw[loop_norm (l:=[3,54,55,63,64]) rfl]
  simp(disch:=omega)only[go_sem,simprocAttr]
  rw[runK_loop]
  by_cases a2:(c.N 2).ways<0
  ·simp(disch:=omega)only[go_sem,simprocAttr]
   exact hF _
  by_cases b2:255<(c.N 2).ways
  ·simp(disch:=omega)only[go_sem,simprocAttr]
   exact hF _
  simp(disch:=omega)only[go_sem,simprocAttr]
  rw[loop_norm (l:=[3,54,55,63,64]) rfl]
  simp(disch:=omega)only[go_sem,simprocAttr]
  rw[runK_loop]
  by_cases a3:(c.N 3).ways<0
  ·simp(disch:=omega)only[go_sem,simprocAttr]
   exact hF _
  by_cases b3:255<(c.N 3).ways
  ·simp(disch:=omega)only[go_sem,simprocAttr]
   exact hF _
  simp(disch:=omega)only[go_sem,simprocAttr]
  rw[loop_norm (l:=[3,54,55,63,64]) rfl]
  simp(disch:=omega)only[go_sem,simprocAttr]
  rw[runK_loop]
  simp(disch:=omega)only[go_sem,simprocAttr]
  rw[loop_norm (l:=[3,54,55]) rfl]
  simp(disch:=omega)only[go_sem,simprocAttr]
  exact nx _
theorem fits_ex(wo:w.Ok)(hs:s.Raw):∃ y,EvQ Cx 10 [.agg (cW w),.agg (cSy s)] y∧∃ b,y=Bo b∧(b=true→s.Fit w):=by
 have h1:=cW_one w
 have hlen:=cW_len wo
 have w10:=w10 w
 have s0:=@s0 s
 have s1:=@s1 s
 have s68:=@s68 s
 have o2:=@cSy_one s
 have l2:=@cSy_len s
 have tw:List.take 585 (cW w)=cW w:=List.take_of_length_le (by omega)
 have tS:List.take 69 (cSy s)=cSy s:=List.take_of_length_le (by omega)
 have hG:=gright w.c w.h w.o w.s w.y
 have l0:=hs.lc
 have l1:=hs.lk
 have l3:=hs.ln
 generalize cW w=WW at *
 generalize cSy s=SS at *
 refine evG_of CxB10 rfl (by simp[fn10]) ?_
 by_cases q1:OkG w.c w.h w.o w.s w.y
 case neg =>
  rw[decide_eq_false q1]at hG
  simp(disch:=omega)only[go_sem,simprocAttr,h1,w10,o2,QK.use hG]
  exact fun h=>h.elim
 rw[decide_eq_true q1]at hG
 simp(disch:=omega)only[go_sem,simprocAttr,h1,w10,s0,o2,l2,QK.use hG]
 by_cases q2:(s.cores.length:Int)=w.c
 case neg =>
  simp(disch:=omega)only[go_sem,simprocAttr]
  exact fun h=>h.elim
 by_cases q3:(s.caches.length:Int)=w.c
 case neg =>
  simp(disch:=omega)only[go_sem,simprocAttr,q2,w10,s1]
  exact fun h=>h.elim
 by_cases q4:s.net.length≤64
 case neg =>
  simp(disch:=omega)only[go_sem,simprocAttr,q2,q3,w10,s1,s68]
  exact fun h=>h.elim
 simp(disch:=omega)only[go_sem,simprocAttr,q2,q3,w10,s0,s1,s68,l2]
 rw[← q2]
 rw[loop_norm (l:=[3,39,40]) rfl]
 simp(disch:=omega)only[go_sem,simprocAttr]
 have n4:=q1.2.1
 refine fcore_loop (T:=[]) s0 l2 (by omega) ?_ ?_ (fun c hc=>(hs.core c hc).2) s.cores.length 0 (by omega) (by simp)
 ·simp(disch:=omega)only[go_sem,simprocAttr]
  exact fun h=>h.elim
 intro hbuf
 simp(disch:=omega)only[go_sem,simprocAttr,s1]
 rw[loop_norm (l:=[3,54,55]) rfl]
 simp(disch:=omega)only[go_sem,simprocAttr]
 refine fcache_loop s1 l2 (by omega) ?_ ?_ hs.cache s.caches.length 0 [] (by omega)
 ·intro T
  simp(disch:=omega)only[go_sem,simprocAttr]
  exact fun h=>h.elim
 intro T
 simp(disch:=omega)only[go_sem,simprocAttr]
 exact fun _=>⟨hs,q2,q3,q4,hbuf⟩
end
def vs:A→Bool
 |.v _=>true
 |.sl _ _=>true
 |_=>false
theorem vs_fz(H:Heap)(n:Nat):∀ l:List A,l.all vs=true→mapO (freeze H (n+1)) l=some l
 |[],_=>rfl
 |a::l,h=>by
  rw[List.all_cons,Bool.and_eq_true]at h
  rw[mapO_cons,vs_fz H n l h.2]
  cases a<;>first|simp only[fz_v,fz_sl]|(exact absurd h.1 (by simp[vs]))
theorem vs_shut:∀ l:List A,l.all vs=true→shut.shutL l=true
 |[],_=>rfl
 |a::l,h=>by
  rw[List.all_cons,Bool.and_eq_true]at h
  rw[shut.shutL,vs_shut l h.2]
  cases a<;>first|rfl|(exact absurd h.1 (by simp[vs]))
theorem cE_vs:∀ l:List Ce,(cells cE l).all vs=true
 |[]=>rfl
 |x::l=>by
  simp only[cells,List.cons_append,List.nil_append,List.all_cons,vs,Bool.true_and,cE_vs l]
theorem cW_vs(w:Wo):(cW w).all vs=true:=by
 obtain⟨k0,t0,n0,v0,l0,hc⟩:=cond_cells w.P.cond
 unfold cW cPg Pg.low Wo.gr cT9
 rw[hc]
 simp only[List.all_append,List.all_cons,List.all_nil,vs,cE_vs,Bool.and_true]
theorem cS_fz(H:Heap)(n:Nat):∀ l:List Sp,mapO (freeze H (n+1)) (cells cS l)=some (cells cS l)
 |[]=>rfl
 |x::l=>by
  simp only[cells,List.cons_append,List.nil_append,mapO_cons,fz_v,cS_fz H n l]
theorem cS_nrm:∀ l:List Sp,nrmL (cells cS l)=cells cS l
 |[]=>rfl
 |x::l=>by
  simp only[cells,List.cons_append,List.nil_append,nrmL,nrm,cS_nrm l]
theorem cSy_vs(s:Sy):(cSy s).all vs=true:=rfl
section
variable{w:Wo}{s:Sy}{n:Nat}
theorem sysfits_ev(wo:w.Ok){bR bF:Bool}(hR:EvQ Cx 9 [.agg (cW w)] (Bo bR))(hF:bR=true→EvQ Cx 10 [.agg (cW w),.agg (cSy s)] (Bo bF)):EvQ Cx 28 [.agg (cW w),.agg (cSy s)] (Bo (bR&&bF)):=by
 have h1:=cW_one w
 have hlen:=cW_len wo
 have z1:∀ H,mapO (freeze H 19) (cW w)=some (cW w):=fun H=>vs_fz H 18 _ (cW_vs w)
 have z2:=vs_shut _ (cW_vs w)
 have z3:∀ H,mapO (freeze H 19) (cSy s)=some (cSy s):=fun H=>vs_fz H 18 _ (cSy_vs s)
 have z4:=vs_shut _ (cSy_vs s)
 have o2:=@cSy_one s
 have l2:=@cSy_len s
 have tw:List.take 585 (cW w)=cW w:=List.take_of_length_le (by omega)
 have tS:List.take 69 (cSy s)=cSy s:=List.take_of_length_le (by omega)
 generalize cW w=WW at *
 generalize cSy s=SS at *
 refine evQ_of CxB28 rfl (by simp[fn28]) ?_
 cases bR with
 |false=>simp(disch:=omega)only[go_sem,simprocAttr,h1,hlen,z1,z2,o2,tw,QK.use hR]
 |true =>
  have hF:=hF rfl
  simp(disch:=omega)only[go_sem,simprocAttr,h1,hlen,z1,z2,z3,z4,o2,l2,tw,tS,QK.use hR,QK.use hF]
theorem steps_no(wo:w.Ok)(hf:EvQ Cx 28 [.agg (cW w),.agg (cSy s)] (Bo false)):EvQ Cx 8 [.agg (cW w),.agg (cSy s)] (.sl 0 []):=by
 have h1:=cW_one w
 have hlen:=cW_len wo
 have z1:∀ H,mapO (freeze H 19) (cW w)=some (cW w):=fun H=>vs_fz H 18 _ (cW_vs w)
 have z2:=vs_shut _ (cW_vs w)
 have z3:∀ H,mapO (freeze H 19) (cSy s)=some (cSy s):=fun H=>vs_fz H 18 _ (cSy_vs s)
 have z4:=vs_shut _ (cSy_vs s)
 have o2:=@cSy_one s
 have l2:=@cSy_len s
 have tw:List.take 585 (cW w)=cW w:=List.take_of_length_le (by omega)
 have tS:List.take 69 (cSy s)=cSy s:=List.take_of_length_le (by omega)
 generalize cW w=WW at *
 generalize cSy s=SS at *
 refine evQ_of CxB8 rfl (by simp[fn8]) ?_
 simp(disch:=omega)only[go_sem,simprocAttr,h1,hlen,z1,z2,z3,z4,o2,l2,tw,tS,QK.use hf]
theorem steps_yes(W:w.Run n)(ts:s.Typ n)(hnl:s.net.length≤64)(hf:EvQ Cx 28 [.agg (cW w),.agg (cSy s)] (Bo true)){os:List Nat}(hN:EvQ Cx 64 [.sl s.net.length (cells cM s.net),I8 w.net] (.sl os.length (cells cJ os)))(hos:∀ i∈os,i<s.net.length)(hol:os.length≤64){E:Sp→Int}(hE:∀ x:Sp,x.Ok→∀ [Kst] {ow:Bool} {rb mb:Nat} {vc vk vd:A} {H:Heap},Rn ow w s rb mb vc vk vd [] H→CallK Cx 31 [.ptr rb 0,eS x] H (StepR w n rb mb ow (E x) H)):EvQ Cx 8 [.agg (cW w),.agg (cSy s)] (.sl (okS E n w.lines (nextM s.net os)).length (cells cS (okS E n w.lines (nextM s.net os)))):=by
 have h1:=cW_one w
 have hlen:=cW_len W.ok
 have z1:∀ H,mapO (freeze H 19) (cW w)=some (cW w):=fun H=>vs_fz H 18 _ (cW_vs w)
 have z2:=vs_shut _ (cW_vs w)
 have z3:∀ H,mapO (freeze H 19) (cSy s)=some (cSy s):=fun H=>vs_fz H 18 _ (cSy_vs s)
 have z4:=vs_shut _ (cSy_vs s)
 have o2:=@cSy_one s
 have l2:=@cSy_len s
 have tw:List.take 585 (cW w)=cW w:=List.take_of_length_le (by omega)
 have tS:List.take 69 (cSy s)=cSy s:=List.take_of_length_le (by omega)
 have hb:∀{H:Heap},_:=fun {H:Heap}=>begin_ex (s:=s) (vc:=.sl s.cores.length (cells cK s.cores)) (vk:=.sl s.caches.length (cells cC s.caches)) W.ok rfl rfl (H:=H)
 change ∀{H:Heap},CallK Cx 29 [.agg (cW w),.agg (cSy s)] H _ at hb
 refine evQ_of CxB8 rfl (by simp[fn8]) ?_
 generalize cW w=WW at *
 generalize cSy s=SS at *
 simp(disch:=omega)only[go_sem,simprocAttr,h1,hlen,z1,z2,z3,z4,o2,l2,tw,tS,QK.use hf]
 refine passK_ex hb ?_
 rintro y K ⟨l,rb,mb,rfl,rfl,hr,hm⟩
 simp(disch:=omega)only[go_sem,simprocAttr,runK_rf,rfK_fn,newRecA,passK_in CxB30 CxP30]
 have e0:([some ⟨44,WW,true⟩,some ⟨58,SS,true⟩]++l:Heap).length=l.length+2:=by simp
 letI:Kst:=⟨1,SS⟩
 have R0:Rn false w s rb mb (.sl s.cores.length (cells cK s.cores)) (.sl s.caches.length (cells cC s.caches)) (.v (.slice none 0 0)) [] ([some ⟨44,WW,true⟩,some ⟨58,SS,true⟩]++l):=⟨hr,hm,rfl,rfl,.inl ⟨rfl,rfl⟩,rfl⟩
 have S0:SI w s rb mb (l.length+2) (l.length+3) (l.length+4) (l.length+5) (.sl s.cores.length (cells cK s.cores)) (.sl s.caches.length (cells cC s.caches)) (([some ⟨44,WW,true⟩,some ⟨58,SS,true⟩]++l)++[some ⟨101,[.ptr rb 0],true⟩,some ⟨65,[.v (.slice none 0 0)],true⟩,some ⟨101,[.ptr rb 0],true⟩,some ⟨0,[.lrec 36 [19] [5,6] m8_l0 m8_l1,I64 0,I64 0,.ptr (l.length+2) 0,.ptr (l.length+3) 0],true⟩]) []:=by
  have q:∀(t:Heap) (k:Nat),(([some ⟨44,WW,true⟩,some ⟨58,SS,true⟩]++l:Heap)++t)[l.length+2+k]?=t[k]?:=fun t k=>by
   have:=ap_getk' ([some ⟨44,WW,true⟩,some ⟨58,SS,true⟩]++l:Heap) t k
   rwa [e0]at this
  exact⟨⟨R0.app _,q _ 0,q _ 2,⟨_,q _ 1⟩,q _ 3⟩,_,q _ 1,.inl ⟨rfl,rfl⟩⟩
 refine CallK.mono (cand_run W ts hnl (fun S hl x xo=>yield_ex W hE S hl xo) hN hos hol S0) ?_
 rintro y K' ⟨S',v,hv,hl⟩
 have hR:=S'.rec_
 generalize okS E n w.lines (nextM s.net os)=R at *
 rcases hl with⟨rfl,rfl⟩|⟨h0,j,rfl,hj⟩
 ·have g1:(K'.set (l.length+3+1+1) none)[l.length+1+1+1]?=_:=low_set hv (ne_el hR hv rfl) none
  simp(disch:=omega)only[go_sem,simprocAttr,exK_go,pendK_some,recOf,pending,exOfN,hR,g1]
  rfl
 ·have g1:(K'.set (l.length+3+1+1) none)[l.length+1+1+1]?=_:=low_set hv (ne_el hR hv rfl) none
  have g2:(K'.set (l.length+3+1+1) none)[j]?=_:=low_set hj (ne_el hR hj rfl) none
  simp(disch:=omega)only[go_sem,simprocAttr,exK_go,pendK_some,recOf,pending,exOfN,hR,g1,g2,cS_len,cS_take,cS_fz,cS_nrm]
end
end Go.Proofs.YtpdphobnchajbaaGreatDoor.Ev
