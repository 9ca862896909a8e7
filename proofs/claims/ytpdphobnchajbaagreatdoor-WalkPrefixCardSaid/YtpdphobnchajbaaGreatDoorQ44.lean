/- sys: a step, whatever its kind. -/
import Derived.Test.YtpdphobnchajbaaGreatDoorQ43
set_option linter.unusedSimpArgs false
set_option linter.unusedVariables false
namespace Go.Proofs.YtpdphobnchajbaaGreatDoor.Ev
open Go Go.RowKit
set_option maxRecDepth 100000
set_option maxHeartbeats 16000000
def Wo.lines(w:Wo):Nat:=(5/w.o+1).toNat
def GB(n L:Nat)(x:Sp):Bool :=
 if x.kind=1∨x.kind=2∨x.kind=3 then x.m.eqB zMg&&(decide (x.node<n)&&decide (x.line=0))
 else if x.kind=4 then x.m.eqB zMg&&(decide (x.node<n)&&decide (x.line<L))
 else if x.kind=5 then decide (x.node=0)&&decide (x.line=0)
 else false
theorem XD(n L:Nat)(x:Sp):GB n L x=true↔DY n L x:=by
 unfold GB DY
 split
 ·rename_i h
  rw[Bool.and_eq_true,Bool.and_eq_true,decide_eq_true_iff,decide_eq_true_iff,Mg.eqB_iff]
  constructor
  ·rintro⟨a,b,c⟩
   exact .inl ⟨h,a,b,c⟩
  ·rintro(⟨-,a,b,c⟩|⟨k,-⟩|⟨k,-⟩)
   ·exact⟨a,b,c⟩
   ·omega
   ·omega
 split
 ·rename_i h0 h
  rw[Bool.and_eq_true,Bool.and_eq_true,decide_eq_true_iff,decide_eq_true_iff,Mg.eqB_iff]
  constructor
  ·rintro⟨a,b,c⟩
   exact .inr (.inl ⟨h,a,b,c⟩)
  ·rintro(⟨k,-⟩|⟨-,a,b,c⟩|⟨k,-⟩)
   ·omega
   ·exact⟨a,b,c⟩
   ·omega
 split
 ·rename_i h0 h1 h
  rw[Bool.and_eq_true,decide_eq_true_iff,decide_eq_true_iff]
  constructor
  ·rintro⟨a,b⟩
   exact .inr (.inr ⟨h,a,b⟩)
  ·rintro(⟨k,-⟩|⟨k,-⟩|⟨-,a,b⟩)
   ·omega
   ·omega
   ·exact⟨a,b⟩
 ·rename_i h0 h1 h
  constructor
  ·intro h
   cases h
  ·rintro(⟨k,-⟩|⟨k,-⟩|⟨k,-⟩)<;>omega
section
variable{w:Wo}{s:Sy}{n:Nat}
theorem lX[Kst](W:w.Run n){x:Sp}(xo:x.Ok){ow:Bool}{rb mb:Nat}{vc vk vd:A}{H:aG}(R:Rn ow w s rb mb vc vk vd [] H) :
  bW Cx 66 [.ptr rb 0,eS x] H fun y K=>(∃ l,K=H++l)∧y=Bo (GB n w.lines x):=by
 have wT:=W.ok.T
 have Hb:=R.at_
 have wn:=W.n
 have hL:=u7 W.good.geo
 have d1:0≤5/w.o:=Int.ediv_nonneg (by omega) (by have:=W.good.geo.2.2.2.2.1;omega)
 have hl:((w.lines:Nat):Int)=5/w.o+1:=by unfold Wo.lines;omega
 have xn:=xo.node
 have xl:=xo.line
 have he:eqT Cx.T 20 60 [I8 x.m.kind,I8 x.m.src,I8 x.m.dst,I8 x.m.line,I8 x.m.asker,I8 x.m.acks,Bo x.m.alone,I8 x.m.d.a,I8 x.m.d.b,I8 x.m.d.c,I8 x.m.d.d] [I8 0,I8 0,I8 0,I8 0,I8 0,I8 0,Bo false,I8 0,I8 0,I8 0,I8 0]=some (x.m.eqB zMg):=NH x.m zMg
 have lines0:((w.lines:Nat):Int)≤6:=by
  rw[hl]
  have:=Int.ediv_le_self (a:=5) w.o (by omega)
  omega
 rw[aP bBb a3S];refine⟨by simp[aBL],?_⟩
 unfold GB
 generalize x.m.eqB zMg=bm at *
 have hln:∀ l:aG,∃ l',H++l=H++l':=fun l=>⟨l,rfl⟩
 obtain⟨kind,node,line,m⟩:=x
 simp only at *
 by_cases q:kind=1∨kind=2∨kind=3
 ·rw[if_pos q]
  rcases q with rfl|rfl|rfl
  all_goals
   cases bm with
   |false =>
    simp(disch:=omega)only[↓ he,go_sem,simprocAttr,aE]
    exact⟨_,rfl⟩
   |true =>
    by_cases q1:node<n
    case neg =>
     rw[decide_eq_false q1]
     simp(disch:=omega)only[↓ he,go_sem,simprocAttr,r10,r15,(r20 wT),(fT wT),(eX wT),aI Hb,aE]
     exact⟨_,rfl⟩
    case pos =>
    rw[decide_eq_true q1]
    by_cases q2:line=0
    ·simp(disch:=omega)only[↓ he,go_sem,simprocAttr,r10,r15,(r20 wT),(fT wT),(eX wT),aI Hb,q2,aE]
     exact⟨_,rfl⟩
    ·rw[decide_eq_false q2]
     simp(disch:=omega)only[↓ he,go_sem,simprocAttr,r10,r15,(r20 wT),(fT wT),(eX wT),aI Hb,cZ q2,aE]
     exact⟨_,rfl⟩
 rw[if_neg q]
 by_cases q4:kind=4
 ·rw[if_pos q4]
  subst q4
  cases bm with
  |false =>
   simp(disch:=omega)only[↓ he,go_sem,simprocAttr,aE]
   exact⟨_,rfl⟩
  |true =>
   by_cases q1:node<n
   case neg =>
    rw[decide_eq_false q1]
    simp(disch:=omega)only[↓ he,go_sem,simprocAttr,r10,r15,(r20 wT),(fT wT),(eX wT),aI Hb,aE]
    exact⟨_,rfl⟩
   case pos =>
   rw[decide_eq_true q1]
   by_cases q2:line<w.lines
   ·rw[decide_eq_true q2]
    simp(disch:=omega)only[↓ he,go_sem,simprocAttr,r10,r15,(r20 wT),(fT wT),(eX wT),aI Hb,QK.use hL,aE]
    exact⟨_,rfl⟩
   ·rw[decide_eq_false q2]
    simp(disch:=omega)only[↓ he,go_sem,simprocAttr,r10,r15,(r20 wT),(fT wT),(eX wT),aI Hb,QK.use hL,aE]
    exact⟨_,rfl⟩
 rw[if_neg q4]
 by_cases q5:kind=5
 ·rw[if_pos q5]
  subst q5
  cases bm
  all_goals
   by_cases q1:node<n
   all_goals
    by_cases q2:node=0
    ·rw[decide_eq_true q2]
     subst q2
     by_cases q3:line=0
     ·rw[decide_eq_true q3]
      simp(disch:=omega)only[↓ he,go_sem,simprocAttr,r10,r15,(r20 wT),(fT wT),(eX wT),aI Hb,q3,aE]
      exact⟨_,rfl⟩
     ·rw[decide_eq_false q3]
      simp(disch:=omega)only[↓ he,go_sem,simprocAttr,r10,r15,(r20 wT),(fT wT),(eX wT),aI Hb,cZ q3,aE]
      exact⟨_,rfl⟩
    ·rw[decide_eq_false q2]
     simp(disch:=omega)only[↓ he,go_sem,simprocAttr,r10,r15,(r20 wT),(fT wT),(eX wT),aI Hb,cZ q2,aE]
     exact⟨_,rfl⟩
 rw[if_neg q5]
 have z1:¬ kind=1:=fun h=>q (.inl h)
 have z2:¬ kind=2:=fun h=>q (.inr (.inl h))
 have z3:¬ kind=3:=fun h=>q (.inr (.inr h))
 cases bm
 all_goals
  by_cases q1:node<n
  all_goals
   simp(disch:=omega)only[↓ he,go_sem,simprocAttr,r10,r15,(r20 wT),(fT wT),(eX wT),aI Hb,cZ z1,cZ z2,cZ z3,cZ q4,cZ q5,aE]
   exact⟨_,rfl⟩
theorem aB2(W:w.Run n)(ts:s.Typ n)(hnl:s.net.length≤64){os:List Nat}(hN:EvQ Cx 64 [.sl s.net.length (cells cM s.net),I8 w.net] (.sl os.length (cells cJ os)))(hos:∀ i∈os,i<s.net.length)(hol:os.length≤64){x:Sp}(xo:x.Ok) :
  ∃ e:Int,(¬ DY n w.lines x→e=312)∧(x.kind=5→vW s.net x.m os 0=none→dis e=true)∧∀ [Kst] {ow:Bool} {rb mb:Nat} {vc vk vd:A} {H:aG},Rn ow w s rb mb vc vk vd [] H→bW Cx 31 [.ptr rb 0,eS x] H (pF w n rb mb ow e H):=by
 have wT:=W.ok.T
 cases hfb:GB n w.lines x with
 |false =>
  refine⟨312,fun _=>rfl,fun _ _=>rfl,?_⟩
  intro _ ow rb mb vc vk vd H R
  obtain⟨kind,node,line,m⟩:=x
  rw[aP B6 C5];refine⟨by simp[A7],?_⟩
  simp(disch:=omega)only[go_sem,simprocAttr]
  refine aM (lX (x:=⟨kind,node,line,m⟩) W xo (R.app _)) ?_
  rintro y K ⟨⟨l,rfl⟩,rfl⟩
  rw[hfb]
  simp(disch:=omega)only[go_sem,simprocAttr,aE]
  exact⟨_,_,rfl,rfl,fun h=>by cases h⟩
 |true =>
  have hf:=(XD n w.lines x).1 hfb
  have wn:=W.n
  have xn:=xo.node
  have xk:x.kind=1∨x.kind=2∨x.kind=3∨x.kind=4∨x.kind=5:=by
   rcases hf with⟨h,-⟩|⟨h,-⟩|⟨h,-⟩<;>omega
  have hnode:x.kind≠5→∃ k:Nat,x.node=k∧k<n:=fun h5=>by
   refine⟨x.node.toNat,by omega,?_⟩
   rcases hf with⟨-,-,h,-⟩|⟨-,-,h,-⟩|⟨h,-⟩
   ·omega
   ·omega
   ·exact absurd h h5
  obtain⟨kind,node,line,m⟩:=x
  simp only at xk hnode ⊢
  rcases xk with rfl|rfl|rfl|rfl|rfl
  ·obtain⟨k,hk,hkn⟩:=hnode (by decide)
   obtain⟨e,hS⟩:=aAp W ts hkn (x:=⟨1,node,line,m⟩) hk
   refine⟨e,fun h=>absurd hf h,by simp,?_⟩
   intro _ ow rb mb vc vk vd H R
   have Hb:=R.at_
   have Hk:=R.kinds
   unfold sE at Hk
   rw[aP B6 C5];refine⟨by simp[A7],?_⟩
   simp(disch:=omega)only[go_sem,simprocAttr]
   refine aM (lX (x:=⟨1,node,line,m⟩) W xo (R.app _)) ?_
   rintro y K ⟨⟨l,rfl⟩,rfl⟩
   rw[hfb]
   simp(disch:=omega)only[go_sem,simprocAttr,(mF wT),(lH wT),aI Hb,aI Hk,List.append_assoc,List.cons_append]
   refine aM (hS (R.app _)) ?_
   rintro y K ⟨f,l2,rfl,rfl,hA⟩
   simp(disch:=omega)only[go_sem,simprocAttr,aE]
   refine⟨_,_,rfl,rfl,fun h h'=>?_⟩
   have:=hA h h'
   simp only[List.append_assoc,List.cons_append]at this ⊢
   exact this
  ·obtain⟨k,hk,hkn⟩:=hnode (by decide)
   obtain⟨e,hS⟩:=XY W ts hkn (x:=⟨2,node,line,m⟩) hk
   refine⟨e,fun h=>absurd hf h,by simp,?_⟩
   intro _ ow rb mb vc vk vd H R
   have Hb:=R.at_
   have Hk:=R.kinds
   unfold sE at Hk
   rw[aP B6 C5];refine⟨by simp[A7],?_⟩
   simp(disch:=omega)only[go_sem,simprocAttr]
   refine aM (lX (x:=⟨2,node,line,m⟩) W xo (R.app _)) ?_
   rintro y K ⟨⟨l,rfl⟩,rfl⟩
   rw[hfb]
   simp(disch:=omega)only[go_sem,simprocAttr,(mF wT),(lH wT),aI Hb,aI Hk,List.append_assoc,List.cons_append]
   refine aM (hS (R.app _)) ?_
   rintro y K ⟨f,l2,rfl,rfl,hA⟩
   simp(disch:=omega)only[go_sem,simprocAttr,aE]
   refine⟨_,_,rfl,rfl,fun h h'=>?_⟩
   have:=hA h h'
   simp only[List.append_assoc,List.cons_append]at this ⊢
   exact this
  ·obtain⟨k,hk,hkn⟩:=hnode (by decide)
   obtain⟨e,hS⟩:=aKc W ts (by omega) hkn (x:=⟨3,node,line,m⟩) hk
   refine⟨e,fun h=>absurd hf h,by simp,?_⟩
   intro _ ow rb mb vc vk vd H R
   have Hb:=R.at_
   have Hk:=R.kinds
   unfold sE at Hk
   rw[aP B6 C5];refine⟨by simp[A7],?_⟩
   simp(disch:=omega)only[go_sem,simprocAttr]
   refine aM (lX (x:=⟨3,node,line,m⟩) W xo (R.app _)) ?_
   rintro y K ⟨⟨l,rfl⟩,rfl⟩
   rw[hfb]
   simp(disch:=omega)only[go_sem,simprocAttr,(mF wT),(lH wT),aI Hb,aI Hk,List.append_assoc,List.cons_append]
   refine aM (hS (R.app _)) ?_
   rintro y K ⟨f,l2,rfl,rfl,hA⟩
   simp(disch:=omega)only[go_sem,simprocAttr,aE]
   refine⟨_,_,rfl,rfl,fun h h'=>?_⟩
   have:=hA h h'
   simp only[List.append_assoc,List.cons_append]at this ⊢
   exact this
  ·obtain⟨k,hk,hkn⟩:=hnode (by decide)
   obtain⟨e,hS⟩:=ZB W ts (by omega) hkn (x:=⟨4,node,line,m⟩) xo hk
   refine⟨e,fun h=>absurd hf h,by simp,?_⟩
   intro _ ow rb mb vc vk vd H R
   have Hb:=R.at_
   have Hk:=R.kinds
   unfold sE at Hk
   rw[aP B6 C5];refine⟨by simp[A7],?_⟩
   simp(disch:=omega)only[go_sem,simprocAttr]
   refine aM (lX (x:=⟨4,node,line,m⟩) W xo (R.app _)) ?_
   rintro y K ⟨⟨l,rfl⟩,rfl⟩
   rw[hfb]
   simp(disch:=omega)only[go_sem,simprocAttr,(mF wT),(lH wT),aI Hb,aI Hk,List.append_assoc,List.cons_append]
   refine aM (hS (R.app _)) ?_
   rintro y K ⟨f,l2,rfl,rfl,hA⟩
   simp(disch:=omega)only[go_sem,simprocAttr,aE]
   refine⟨_,_,rfl,rfl,fun h h'=>?_⟩
   have:=hA h h'
   simp only[List.append_assoc,List.cons_append]at this ⊢
   exact this
  ·obtain⟨e,h6,hS⟩:=aHv W ts hnl (x:=⟨5,node,line,m⟩) xo hN hos hol
   refine⟨e,fun h=>absurd hf h,fun _ h=>by rw[h6 h];rfl,?_⟩
   intro _ ow rb mb vc vk vd H R
   have Hb:=R.at_
   have Hk:=R.kinds
   unfold sE at Hk
   rw[aP B6 C5];refine⟨by simp[A7],?_⟩
   simp(disch:=omega)only[go_sem,simprocAttr]
   refine aM (lX (x:=⟨5,node,line,m⟩) W xo (R.app _)) ?_
   rintro y K ⟨⟨l,rfl⟩,rfl⟩
   rw[hfb]
   simp(disch:=omega)only[go_sem,simprocAttr,(mF wT),(lH wT),aI Hb,aI Hk,List.append_assoc,List.cons_append]
   refine aM (hS (R.app _)) ?_
   rintro y K ⟨f,l2,rfl,rfl,hA⟩
   simp(disch:=omega)only[go_sem,simprocAttr,aE]
   refine⟨_,_,rfl,rfl,fun h h'=>?_⟩
   have:=hA h h'
   simp only[List.append_assoc,List.cons_append]at this ⊢
   exact this
end
def iD(net:List Mg)(os:List Nat):List Mg:=os.filterMap fun i=>net[i]?
theorem XJ{net:List Mg}{m:Mg}{os:List Nat}(h:m ∉ iD net os):vW net m os 0=none:=by
 cases hi:vW net m os 0 with
 |none=>rfl
 |some j =>
  obtain⟨d,i,-,h1,h2⟩:=uW hi
  exact absurd (List.mem_filterMap.2 ⟨i,List.mem_of_getElem? h1,h2⟩) h
section
variable{w:Wo}{s:Sy}{n:Nat}
open Classical in
theorem aUR(W:w.Run n)(ts:s.Typ n)(hnl:s.net.length≤64){os:List Nat}(hN:EvQ Cx 64 [.sl s.net.length (cells cM s.net),I8 w.net] (.sl os.length (cells cJ os)))(hos:∀ i∈os,i<s.net.length)(hol:os.length≤64) :
  ∃ E:Sp→Int,Esp E n w.lines (iD s.net os)∧∀ x:Sp,x.Ok→∀ [Kst] {ow:Bool} {rb mb:Nat} {vc vk vd:A} {H:aG},Rn ow w s rb mb vc vk vd [] H→bW Cx 31 [.ptr rb 0,eS x] H (pF w n rb mb ow (E x) H):=by
 have hx:∀ x:Sp,x.Ok→_:=fun x xo=>aB2 W ts hnl hN hos hol xo
 refine⟨fun x=>if h:x.Ok then Classical.choose (hx x h)else 0,⟨fun x xo hf=>?_,fun x xo hk hm=>?_⟩,fun x xo=>?_⟩
 ·simp only[dif_pos xo]
  exact(Classical.choose_spec (hx x xo)).1 hf
 ·simp only[dif_pos xo]
  exact(Classical.choose_spec (hx x xo)).2.1 hk (XJ hm)
 ·simp only[dif_pos xo]
  exact(Classical.choose_spec (hx x xo)).2.2
theorem sX(s:Sy):dE s.dirs=true:=rfl
theorem IH(wo:w.Ok){vc vk:A}(o1:one vc=true)(o2:one vk=true){H:aG} :
  bW Cx 29 [.agg (cW w),.agg (iB vc vk s (.sl s.net.length (cells cM s.net)))] H fun y K=>∃ l rb mb,K=H++l∧y=.ptr rb 0∧K[rb]?=some (some ⟨127,eQ w vc vk s (.sl s.net.length (cells cM s.net)) (.mp mb) (.v (.slice none 0 0)),true⟩)∧K[mb]?=some (some ⟨125,sE rb,true⟩):=by
 have w1:=iP w
 have wl:=iO wo
 have s1:dE (iB vc vk s (.sl s.net.length (cells cM s.net)))=true:=by
  unfold iB
  simp only[dE,o1,o2,Bool.true_and]
  exact fC _ _ (sX s) rfl
 have sl:(iB vc vk s (.sl s.net.length (cells cM s.net))).length=69:=rfl
 have tw:List.take 585 (cW w)=cW w:=List.take_of_length_le (by omega)
 have tS:List.take 69 (iB vc vk s (.sl s.net.length (cells cM s.net)))=iB vc vk s (.sl s.net.length (cells cM s.net)):=List.take_of_length_le (by rw[sl];omega)
 have e:∀ mb,eQ w vc vk s (.sl s.net.length (cells cM s.net)) (.mp mb) (.v (.slice none 0 0))=cW w++(iB vc vk s (.sl s.net.length (cells cM s.net))++[.mp mb,.v (.slice none 0 0)]):=fun mb=>by
  unfold eQ
  rfl
 generalize iB vc vk s (.sl s.net.length (cells cM s.net))=SS at *
 rw[aP a5o a4W];refine⟨by simp[Z6],?_⟩
 have tkw:∀ X,List.take 585 (cW w++X)=cW w:=fun X=>List.take_left' wl
 have dz:∀ X,List.drop 654 (cW w++X)=List.drop 69 X:=fun X=>by
  rw[show(654:Nat)=585+69 from rfl,← List.drop_drop,List.drop_left' wl]
 have o3:dE (cW w++(SS++[.v (.map none),.v (.slice none 0 0)]))=true:=fC _ _ w1 (fC _ _ s1 rfl)
 have t6:∀ a b c,List.take 654 (cW w++(SS++[a,b]))++c::List.drop 655 (cW w++(SS++[a,b]))=cW w++(SS++[c,b]):=fun a b c=>by
  have hl:(cW w++SS).length=654:=by rw[List.length_append,wl,sl]
  have e1:cW w++(SS++[a,b])=(cW w++SS)++[a,b]:=by simp
  rw[e1,List.take_left' hl,show(655:Nat)=654+1 from rfl,← List.drop_drop,List.drop_left' hl]
  simp
 have e':∀ mb,eQ w vc vk s (.sl s.net.length (cells cM s.net)) (.mp mb) (.v (.slice none 0 0))=cW w++(SS++[.mp mb,.v (.slice none 0 0)]):=e
 simp(disch:=omega)only[go_sem,simprocAttr,w1,wl,s1,sl,tw,tS,tkw,dz,o3,t6,aE]
 refine⟨_,H.length+2,H.length+3,rfl,rfl,?_,(aZ H _ 3).trans rfl⟩
 rw[e']
 exact(aZ H _ 2).trans rfl
end
def VA(C:Ctx)(b:Nat)(zs:List A)(H:aG)(G:A→aG→Prop):Prop:=∃ x K,EvY C b zs H x K∧G x K
theorem aCT{C:Ctx}{b:Nat}{zs:List A}{H:aG}{G:A→aG→Prop}(h:YlK C b zs (some 0) [] ⟨[],H⟩ [] fun _ st=>∃ x,cI st.env 0=some x∧G x st.H):VA C b zs H G:=by
 obtain⟨x,K,h1,h2⟩:=h
 rw[GE,gD]at h2
 obtain⟨y,hy,hG⟩:=h2
 simp only[put,cI,Nat.beq_refl,cond_true,Option.some.injEq]at hy
 subst hy
 exact⟨_,K,h1,hG⟩
theorem xW{C:Ctx}{b:Nat}{zs:List A}{H:aG}{G:A→aG→Prop}{dst:Option Nat}{ms:List MOp}{e:Env}{k:List It}{Q:Ex→Ev.St→Prop}(h:VA C b zs H G)(hk:∀ x K,G x K→iH C 0 ms ⟨put e dst x,K⟩ k Q):YlK C b zs dst ms ⟨e,H⟩ k Q:=by
 obtain⟨x,K,h1,h2⟩:=h
 exact⟨x,K,h1,hk x K h2⟩
def StV(H:aG)(v:A)(l:List Sp):Prop:=(l=[]∧v=.v (.slice none 0 0))∨(l≠[]∧∃ j,v=.ref j 0 l.length 14∧H[j]?=some (some ⟨62,cells cS l,false⟩))
theorem rS(l:List Sp):(cells cS l).length=l.length*14:=eE cS 14 (fun _=>rfl) l
theorem FF(l:List Sp):(cells cS l).take (l.length*14)=cells cS l:=List.take_of_length_le (by rw[rS];omega)
theorem aFn(l:List Sp)(x:Sp):cells cS l++cS x=cells cS (l++[x]):=by
 rw[dP,cells,cells,List.append_nil]
theorem uB{α:Type}{l:List α}{i:Nat}{x:α}(h:l[i]?=some x):l.set i x=l:=by
 apply List.ext_getElem?
 intro k
 rw[List.getElem?_set]
 split
 ·rename_i e
  subst e
  rw[h]
  split
  ·rfl
  ·rename_i hl
   exact absurd (List.getElem?_eq_some_iff.1 h).1 hl
 ·rfl
structure SB[Kst](w:Wo)(s:Sy)(rb mb rp lp cp B:Nat)(vc vk:A)(K:aG):Prop where
 rn:Rn false w s rb mb vc vk (.v (.slice none 0 0)) [] K
 hrp:K[rp]?=some (some ⟨101,[.ptr rb 0],true⟩)
 hcp:K[cp]?=some (some ⟨101,[.ptr rb 0],true⟩)
 hlp:∃ v,K[lp]?=some (some ⟨65,[v],true⟩)
 rec_:K[B]?=some (some ⟨0,[.lrec 36 [19] [5,6] C1 C3,I64 0,I64 0,.ptr rp 0,.ptr lp 0],true⟩)
def SI[Kst](w:Wo)(s:Sy)(rb mb rp lp cp B:Nat)(vc vk:A)(K:aG)(l:List Sp):Prop:=SB w s rb mb rp lp cp B vc vk K∧∃ v,K[lp]?=some (some ⟨65,[v],true⟩)∧StV K v l
def Kps(K K':aG):Prop:=∀(j:Nat) (cs:List A),K[j]?=some (some ⟨60,cs,false⟩)→K'[j]?=some (some ⟨60,cs,false⟩)
section
variable{w:Wo}{s:Sy}{n:Nat}{rb mb rp lp cp B:Nat}{vc vk:A}
theorem SB.app[Kst]{K:aG}(S:SB w s rb mb rp lp cp B vc vk K)(t:aG):SB w s rb mb rp lp cp B vc vk (K++t):=by
 obtain⟨v,h⟩:=S.hlp
 exact⟨S.rn.app t,aI S.hrp t,aI S.hcp t,⟨v,aI h t⟩,aI S.rec_ t⟩
theorem SI.app[Kst]{K:aG}{l:List Sp}(S:SI w s rb mb rp lp cp B vc vk K l)(t:aG):SI w s rb mb rp lp cp B vc vk (K++t) l:=by
 obtain⟨h,v,h1,h2⟩:=S
 refine⟨h.app t,v,aI h1 t,?_⟩
 rcases h2 with h2|⟨h0,j,h2,h3⟩
 ·exact .inl h2
 ·exact .inr ⟨h0,j,h2,aI h3 t⟩
theorem SB.row[Kst]{K:aG}(S:SB w s rb mb rp lp cp B vc vk K){j:Nat}{cs:List A}(hj:K[j]?=some (some ⟨62,cs,false⟩))(X:Option Blk):SB w s rb mb rp lp cp B vc vk (K.set j X):=by
 obtain⟨v,h⟩:=S.hlp
 exact⟨S.rn.other hj rfl X,aO S.hrp (bO hj S.hrp rfl) X,aO S.hcp (bO hj S.hcp rfl) X,⟨v,aO h (bO hj h rfl) X⟩,aO S.rec_ (bO hj S.rec_ rfl) X⟩
theorem SB.lps[Kst]{K:aG}(S:SB w s rb mb rp lp cp B vc vk K)(v:A):SB w s rb mb rp lp cp B vc vk (K.set lp (some ⟨65,[v],true⟩)):=by
 obtain⟨v',h⟩:=S.hlp
 exact⟨S.rn.other h rfl _,aO S.hrp (bO h S.hrp rfl) _,aO S.hcp (bO h S.hcp rfl) _,⟨v,bU h _⟩,aO S.rec_ (bO h S.rec_ rfl) _⟩
theorem aBz[Kst](W:w.Run n){E:Sp→Int}(hE:∀ x:Sp,x.Ok→∀ [Kst] {ow:Bool} {rb mb:Nat} {vc vk vd:A} {H:aG},Rn ow w s rb mb vc vk vd [] H→bW Cx 31 [.ptr rb 0,eS x] H (pF w n rb mb ow (E x) H)){K:aG}{l:List Sp}(S:SI w s rb mb rp lp cp B vc vk K l)(hl:l.length≤1000){x:Sp}(xo:x.Ok) :
  VA Cx B [eS x] K fun y K'=>y=Bo true∧SI w s rb mb rp lp cp B vc vk K' (if dis (E x)=true then l else l++[x])∧Kps K K':=by
 obtain⟨SBk,v,h2,hv⟩:=S
 have hR:=SBk.rec_
 have h1:=SBk.hrp
 have hRn:=SBk.rn
 refine aCT ?_
 rw[eU]
 have hBl:=(List.getElem?_eq_some_iff.1 hR).1
 have hsB:=iV hBl
 have gB:=bU hR
 have g1:=aO h1 (bO hR h1 rfl)
 simp(disch:=omega)only[go_sem,simprocAttr,bP,dK,bX,fK.blk,dY,bN,hR,aI hR,hsB,aI (g1 _)]
 refine aM (hE x xo ((hRn.other hR rfl _).app _)) ?_
 rintro y K' ⟨f,L,rfl,rfl,-⟩
 have nBl:=bO hR h2 rfl
 have g2:=aO h2 nBl
 have hlpl:=(List.getElem?_eq_some_iff.1 h2).1
 have sl:∀ X l Y,(K.set B X++l).set lp Y=(K.set B X).set lp Y++l:=fun X l Y=>iV (by rw[List.length_set];exact hlpl) _ _
 have f0:∀ X l,(K.set B X++l).set B (some ⟨0,[.lrec 36 [19] [5,6] C1 C3,I64 0,I64 0,.ptr rp 0,.ptr lp 0],true⟩)=K++l:=fun X l=>by
  rw[iV (by rw[List.length_set];exact hBl),List.set_set,uB hR]
 have gB1:∀ X Y,((K.set B X).set lp Y)[B]?=some X:=fun X Y=>aO (gB X) (Ne.symm nBl) Y
 have f1:∀ X Y l,((K.set B X).set lp Y++l).set B (some ⟨0,[.lrec 36 [19] [5,6] C1 C3,I64 0,I64 0,.ptr rp 0,.ptr lp 0],true⟩)=K.set lp Y++l:=fun X Y l=>by
  rw[iV (by rw[List.length_set,List.length_set];exact hBl),List.set_comm _ _ nBl,List.set_set,uB (aO hR (Ne.symm nBl) Y)]
 generalize E x=e at *
 unfold dis
 have old:∀ T:aG,SI w s rb mb rp lp cp B vc vk (K++T) l∧Kps K (K++T):=fun T=>⟨SI.app ⟨SBk,v,h2,hv⟩ T,fun j cs h=>aI h T⟩
 by_cases q1:e=312
 ·subst q1
  simp(disch:=omega)only[go_sem,simprocAttr,dM,bS,fK.blk,bN,List.append_assoc,List.cons_append,aI (gB _),f0]
  exact old _
 by_cases q2:e=6
 ·subst q2
  simp(disch:=omega)only[go_sem,simprocAttr,dM,bS,fK.blk,bN,List.append_assoc,List.cons_append,aI (gB _),f0]
  exact old _
 by_cases q3:e=272
 ·subst q3
  simp(disch:=omega)only[go_sem,simprocAttr,dM,bS,fK.blk,bN,List.append_assoc,List.cons_append,aI (gB _),f0]
  exact old _
 rcases hv with⟨rfl,rfl⟩|⟨hne,j,rfl,hj⟩
 ·simp(disch:=omega)only[go_sem,simprocAttr,dM,bS,fK.blk,bN,List.append_assoc,List.cons_append,aI (g2 _),aI (gB1 _ _),f1,sl,cZ q1,cZ q2,cZ q3,maxLen]
  exact⟨⟨(SBk.lps _).app _,_,aI (bU h2 _) _,.inr ⟨by simp,_,rfl,(d8 K _ lp _ _).trans (by rw[List.getElem?_cons_succ];exact aZ L _ 1)⟩⟩,fun j cs h=>aI (aO h (bO h2 h rfl) _) _⟩
 ·have nBj:=bO hR hj rfl
  have nlj:=bO h2 hj rfl
  have hjl:=(List.getElem?_eq_some_iff.1 hj).1
  have g3:=aO hj nBj
  have sj:∀ X l,(K.set B X++l).set j none=(K.set B X).set j none++l:=fun X l=>iV (by rw[List.length_set];exact hjl) _ _
  have g4:∀ X,((K.set B X).set j none)[lp]?=some (some ⟨65,[.ref j 0 l.length 14],true⟩):=fun X=>aO (g2 X) (Ne.symm nlj) none
  have sl2:∀ X T Y,((K.set B X).set j none++T).set lp Y=((K.set B X).set j none).set lp Y++T:=fun X T Y=>iV (by rw[List.length_set,List.length_set];exact hlpl) _ _
  have gB2:∀ X Y,(((K.set B X).set j none).set lp Y)[B]?=some X:=fun X Y=>aO (aO (gB X) (Ne.symm nBj) none) (Ne.symm nBl) Y
  have f2:∀ X Y T,(((K.set B X).set j none).set lp Y++T).set B (some ⟨0,[.lrec 36 [19] [5,6] C1 C3,I64 0,I64 0,.ptr rp 0,.ptr lp 0],true⟩)=(K.set j none).set lp Y++T:=fun X Y T=>by
   rw[iV (by rw[List.length_set,List.length_set,List.length_set];exact hBl),List.set_comm _ _ nBj,List.set_comm _ _ nBl,List.set_set,uB (aO (aO hR (Ne.symm nBj) none) (Ne.symm nBl) Y)]
  simp(disch:=omega)only[go_sem,simprocAttr,dM,bS,fK.blk,bN,List.append_assoc,List.cons_append,aI (g2 _),aI (g3 _),aI (g4 _),aI (gB2 _ _),f2,sl2,sj,cZ q1,cZ q2,cZ q3,rS,FF,maxLen]
  have e2:(l++[x]).length=l.length+1:=by simp
  refine⟨⟨((SBk.row hj none).lps _).app _,_,aI (bU (aO h2 (Ne.symm nlj) none) _) _,.inr ⟨by simp,_,by rw[e2],?_⟩⟩,fun j cs h=>aI (aO (aO h (bO hj h rfl) _) (bO h2 h rfl) _) _⟩
  rw[← aFn]
  have q:∀ T Y k,((K.set j none).set lp Y++T)[K.length+k]?=T[k]?:=fun T Y k=>by
   have:=d8 (K.set j none) T lp Y k
   rwa [List.length_set]at this
  exact(q _ _ _).trans (by rw[List.getElem?_cons_succ];exact aZ L _ 1)
end
end Go.Proofs.YtpdphobnchajbaaGreatDoor.Ev
