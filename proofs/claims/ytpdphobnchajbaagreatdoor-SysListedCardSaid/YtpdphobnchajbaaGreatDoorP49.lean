/- sys: a step, whatever its kind. -/
import Derived.Test.YtpdphobnchajbaaGreatDoorP48
set_option linter.unusedSimpArgs false
set_option linter.unusedVariables false
namespace Go.Proofs.YtpdphobnchajbaaGreatDoor.Ev
open Go Go.RowKit
set_option maxRecDepth 100000
set_option maxHeartbeats 16000000
def Wo.lines(w:Wo):Nat:=(5/w.o+1).toNat
def formB(n L:Nat)(x:Sp):Bool :=
 if x.kind=1∨x.kind=2∨x.kind=3 then x.m.eqB zMg&&(decide (x.node<n)&&decide (x.line=0))
 else if x.kind=4 then x.m.eqB zMg&&(decide (x.node<n)&&decide (x.line<L))
 else if x.kind=5 then decide (x.node=0)&&decide (x.line=0)
 else false
theorem formB_iff(n L:Nat)(x:Sp):formB n L x=true↔Formed n L x:=by
 unfold formB Formed
 split
 ·rename_i h
  rw[Bool.and_eq_true,Bool.and_eq_true,decide_eq_true_iff,decide_eq_true_iff,Mg.eqB_iff]
  constructor
  ·rintro⟨a,b,c⟩
   exact .inl ⟨h,a,b,c⟩
  ·rintro(⟨-,a,b,c⟩|⟨k,-⟩|⟨k,-⟩)
   ·exact⟨a,b,c⟩
   ·omega
   ·omega
 split
 ·rename_i h0 h
  rw[Bool.and_eq_true,Bool.and_eq_true,decide_eq_true_iff,decide_eq_true_iff,Mg.eqB_iff]
  constructor
  ·rintro⟨a,b,c⟩
   exact .inr (.inl ⟨h,a,b,c⟩)
  ·rintro(⟨k,-⟩|⟨-,a,b,c⟩|⟨k,-⟩)
   ·omega
   ·exact⟨a,b,c⟩
   ·omega
 split
 ·rename_i h0 h1 h
  rw[Bool.and_eq_true,decide_eq_true_iff,decide_eq_true_iff]
  constructor
  ·rintro⟨a,b⟩
   exact .inr (.inr ⟨h,a,b⟩)
  ·rintro(⟨k,-⟩|⟨k,-⟩|⟨-,a,b⟩)
   ·omega
   ·omega
   ·exact⟨a,b⟩
 ·rename_i h0 h1 h
  constructor
  ·intro h
   cases h
  ·rintro(⟨k,-⟩|⟨k,-⟩|⟨k,-⟩)<;>omega
section
variable{w:Wo}{s:Sy}{n:Nat}
theorem formed_ex[Kst](W:w.Run n){x:Sp}(xo:x.Ok){ow:Bool}{rb mb:Nat}{vc vk vd:A}{H:Heap}(R:Rn ow w s rb mb vc vk vd [] H) :
  CallK Cx 66 [.ptr rb 0,eS x] H fun y K=>(∃ l,K=H++l)∧y=Bo (formB n w.lines x):=by
 have wT:=W.ok.T
 have Hb:=R.at_
 have wn:=W.n
 have hL:=glines W.good.geo
 have d1:0≤5/w.o:=Int.ediv_nonneg (by omega) (by have:=W.good.geo.2.2.2.2.1;omega)
 have hl:((w.lines:Nat):Int)=5/w.o+1:=by unfold Wo.lines;omega
 have xn:=xo.node
 have xl:=xo.line
 have he:eqT Cx.T 20 60 [I8 x.m.kind,I8 x.m.src,I8 x.m.dst,I8 x.m.line,I8 x.m.asker,I8 x.m.acks,Bo x.m.alone,I8 x.m.d.a,I8 x.m.d.b,I8 x.m.d.c,I8 x.m.d.d] [I8 0,I8 0,I8 0,I8 0,I8 0,I8 0,Bo false,I8 0,I8 0,I8 0,I8 0]=some (x.m.eqB zMg):=mg_eqT x.m zMg
 have lines0:((w.lines:Nat):Int)≤6:=by
  rw[hl]
  have:=Int.ediv_le_self (a:=5) w.o (by omega)
  omega
 rw[callK_in CxB66 CxP66];refine⟨by simp[fn66],?_⟩
 unfold formB
 generalize x.m.eqB zMg=bm at *
 have hln:∀ l:Heap,∃ l',H++l=H++l':=fun l=>⟨l,rfl⟩
 obtain⟨kind,node,line,m⟩:=x
 simp only at *
 by_cases q:kind=1∨kind=2∨kind=3
 ·rw[if_pos q]
  rcases q with rfl|rfl|rfl
  all_goals
   cases bm with
   |false =>
    simp(disch:=omega)only[↓ he,go_sem,simprocAttr,endK_back]
    exact⟨_,rfl⟩
   |true =>
    by_cases q1:node<n
    case neg =>
     rw[decide_eq_false q1]
     simp(disch:=omega)only[↓ he,go_sem,simprocAttr,r10,r15,(r20 wT),(r585 wT),(r586 wT),low_app Hb,endK_back]
     exact⟨_,rfl⟩
    case pos =>
    rw[decide_eq_true q1]
    by_cases q2:line=0
    ·simp(disch:=omega)only[↓ he,go_sem,simprocAttr,r10,r15,(r20 wT),(r585 wT),(r586 wT),low_app Hb,q2,endK_back]
     exact⟨_,rfl⟩
    ·rw[decide_eq_false q2]
     simp(disch:=omega)only[↓ he,go_sem,simprocAttr,r10,r15,(r20 wT),(r585 wT),(r586 wT),low_app Hb,beq_no q2,endK_back]
     exact⟨_,rfl⟩
 rw[if_neg q]
 by_cases q4:kind=4
 ·rw[if_pos q4]
  subst q4
  cases bm with
  |false =>
   simp(disch:=omega)only[↓ he,go_sem,simprocAttr,endK_back]
   exact⟨_,rfl⟩
  |true =>
   by_cases q1:node<n
   case neg =>
    rw[decide_eq_false q1]
    simp(disch:=omega)only[↓ he,go_sem,simprocAttr,r10,r15,(r20 wT),(r585 wT),(r586 wT),low_app Hb,endK_back]
    exact⟨_,rfl⟩
   case pos =>
   rw[decide_eq_true q1]
   by_cases q2:line<w.lines
   ·rw[decide_eq_true q2]
    simp(disch:=omega)only[↓ he,go_sem,simprocAttr,r10,r15,(r20 wT),(r585 wT),(r586 wT),low_app Hb,QK.use hL,endK_back]
    exact⟨_,rfl⟩
   ·rw[decide_eq_false q2]
    simp(disch:=omega)only[↓ he,go_sem,simprocAttr,r10,r15,(r20 wT),(r585 wT),(r586 wT),low_app Hb,QK.use hL,endK_back]
    exact⟨_,rfl⟩
 rw[if_neg q4]
 by_cases q5:kind=5
 ·rw[if_pos q5]
  subst q5
  cases bm
  all_goals
   by_cases q1:node<n
   all_goals
    by_cases q2:node=0
    ·rw[decide_eq_true q2]
     subst q2
     by_cases q3:line=0
     ·rw[decide_eq_true q3]
      simp(disch:=omega)only[↓ he,go_sem,simprocAttr,r10,r15,(r20 wT),(r585 wT),(r586 wT),low_app Hb,q3,endK_back]
      exact⟨_,rfl⟩
     ·rw[decide_eq_false q3]
      simp(disch:=omega)only[↓ he,go_sem,simprocAttr,r10,r15,(r20 wT),(r585 wT),(r586 wT),low_app Hb,beq_no q3,endK_back]
      exact⟨_,rfl⟩
    ·rw[decide_eq_false q2]
     simp(disch:=omega)only[↓ he,go_sem,simprocAttr,r10,r15,(r20 wT),(r585 wT),(r586 wT),low_app Hb,beq_no q2,endK_back]
     exact⟨_,rfl⟩
 rw[if_neg q5]
 have z1:¬ kind=1:=fun h=>q (.inl h)
 have z2:¬ kind=2:=fun h=>q (.inr (.inl h))
 have z3:¬ kind=3:=fun h=>q (.inr (.inr h))
 cases bm
 all_goals
  by_cases q1:node<n
  all_goals
   simp(disch:=omega)only[↓ he,go_sem,simprocAttr,r10,r15,(r20 wT),(r585 wT),(r586 wT),low_app Hb,beq_no z1,beq_no z2,beq_no z3,beq_no q4,beq_no q5,endK_back]
   exact⟨_,rfl⟩
theorem step_run(W:w.Run n)(ts:s.Typ n)(hnl:s.net.length≤64){os:List Nat}(hN:EvQ Cx 64 [.sl s.net.length (cells cM s.net),I8 w.net] (.sl os.length (cells cJ os)))(hos:∀ i∈os,i<s.net.length)(hol:os.length≤64){x:Sp}(xo:x.Ok) :
  ∃ e:Int,(¬ Formed n w.lines x→e=312)∧(x.kind=5→idxF s.net x.m os 0=none→dis e=true)∧∀ [Kst] {ow:Bool} {rb mb:Nat} {vc vk vd:A} {H:Heap},Rn ow w s rb mb vc vk vd [] H→CallK Cx 31 [.ptr rb 0,eS x] H (StepR w n rb mb ow e H):=by
 have wT:=W.ok.T
 cases hfb:formB n w.lines x with
 |false =>
  refine⟨312,fun _=>rfl,fun _ _=>rfl,?_⟩
  intro _ ow rb mb vc vk vd H R
  obtain⟨kind,node,line,m⟩:=x
  rw[callK_in CxB31 CxP31];refine⟨by simp[fn31],?_⟩
  simp(disch:=omega)only[go_sem,simprocAttr]
  refine passK_ex (formed_ex (x:=⟨kind,node,line,m⟩) W xo (R.app _)) ?_
  rintro y K ⟨⟨l,rfl⟩,rfl⟩
  rw[hfb]
  simp(disch:=omega)only[go_sem,simprocAttr,endK_back]
  exact⟨_,_,rfl,rfl,fun h=>by cases h⟩
 |true =>
  have hf:=(formB_iff n w.lines x).1 hfb
  have wn:=W.n
  have xn:=xo.node
  have xk:x.kind=1∨x.kind=2∨x.kind=3∨x.kind=4∨x.kind=5:=by
   rcases hf with⟨h,-⟩|⟨h,-⟩|⟨h,-⟩<;>omega
  have hnode:x.kind≠5→∃ k:Nat,x.node=k∧k<n:=fun h5=>by
   refine⟨x.node.toNat,by omega,?_⟩
   rcases hf with⟨-,-,h,-⟩|⟨-,-,h,-⟩|⟨h,-⟩
   ·omega
   ·omega
   ·exact absurd h h5
  obtain⟨kind,node,line,m⟩:=x
  simp only at xk hnode ⊢
  rcases xk with rfl|rfl|rfl|rfl|rfl
  ·obtain⟨k,hk,hkn⟩:=hnode (by decide)
   obtain⟨e,hS⟩:=core_run W ts hkn (x:=⟨1,node,line,m⟩) hk
   refine⟨e,fun h=>absurd hf h,by simp,?_⟩
   intro _ ow rb mb vc vk vd H R
   have Hb:=R.at_
   have Hk:=R.kinds
   unfold kindsC at Hk
   rw[callK_in CxB31 CxP31];refine⟨by simp[fn31],?_⟩
   simp(disch:=omega)only[go_sem,simprocAttr]
   refine passK_ex (formed_ex (x:=⟨1,node,line,m⟩) W xo (R.app _)) ?_
   rintro y K ⟨⟨l,rfl⟩,rfl⟩
   rw[hfb]
   simp(disch:=omega)only[go_sem,simprocAttr,(r654 wT),(r655 wT),low_app Hb,low_app Hk,List.append_assoc,List.cons_append]
   refine passK_ex (hS (R.app _)) ?_
   rintro y K ⟨f,l2,rfl,rfl,hA⟩
   simp(disch:=omega)only[go_sem,simprocAttr,endK_back]
   refine⟨_,_,rfl,rfl,fun h h'=>?_⟩
   have:=hA h h'
   simp only[List.append_assoc,List.cons_append]at this ⊢
   exact this
  ·obtain⟨k,hk,hkn⟩:=hnode (by decide)
   obtain⟨e,hS⟩:=drain_run W ts hkn (x:=⟨2,node,line,m⟩) hk
   refine⟨e,fun h=>absurd hf h,by simp,?_⟩
   intro _ ow rb mb vc vk vd H R
   have Hb:=R.at_
   have Hk:=R.kinds
   unfold kindsC at Hk
   rw[callK_in CxB31 CxP31];refine⟨by simp[fn31],?_⟩
   simp(disch:=omega)only[go_sem,simprocAttr]
   refine passK_ex (formed_ex (x:=⟨2,node,line,m⟩) W xo (R.app _)) ?_
   rintro y K ⟨⟨l,rfl⟩,rfl⟩
   rw[hfb]
   simp(disch:=omega)only[go_sem,simprocAttr,(r654 wT),(r655 wT),low_app Hb,low_app Hk,List.append_assoc,List.cons_append]
   refine passK_ex (hS (R.app _)) ?_
   rintro y K ⟨f,l2,rfl,rfl,hA⟩
   simp(disch:=omega)only[go_sem,simprocAttr,endK_back]
   refine⟨_,_,rfl,rfl,fun h h'=>?_⟩
   have:=hA h h'
   simp only[List.append_assoc,List.cons_append]at this ⊢
   exact this
  ·obtain⟨k,hk,hkn⟩:=hnode (by decide)
   obtain⟨e,hS⟩:=try_run W ts (by omega) hkn (x:=⟨3,node,line,m⟩) hk
   refine⟨e,fun h=>absurd hf h,by simp,?_⟩
   intro _ ow rb mb vc vk vd H R
   have Hb:=R.at_
   have Hk:=R.kinds
   unfold kindsC at Hk
   rw[callK_in CxB31 CxP31];refine⟨by simp[fn31],?_⟩
   simp(disch:=omega)only[go_sem,simprocAttr]
   refine passK_ex (formed_ex (x:=⟨3,node,line,m⟩) W xo (R.app _)) ?_
   rintro y K ⟨⟨l,rfl⟩,rfl⟩
   rw[hfb]
   simp(disch:=omega)only[go_sem,simprocAttr,(r654 wT),(r655 wT),low_app Hb,low_app Hk,List.append_assoc,List.cons_append]
   refine passK_ex (hS (R.app _)) ?_
   rintro y K ⟨f,l2,rfl,rfl,hA⟩
   simp(disch:=omega)only[go_sem,simprocAttr,endK_back]
   refine⟨_,_,rfl,rfl,fun h h'=>?_⟩
   have:=hA h h'
   simp only[List.append_assoc,List.cons_append]at this ⊢
   exact this
  ·obtain⟨k,hk,hkn⟩:=hnode (by decide)
   obtain⟨e,hS⟩:=evict_run W ts (by omega) hkn (x:=⟨4,node,line,m⟩) xo hk
   refine⟨e,fun h=>absurd hf h,by simp,?_⟩
   intro _ ow rb mb vc vk vd H R
   have Hb:=R.at_
   have Hk:=R.kinds
   unfold kindsC at Hk
   rw[callK_in CxB31 CxP31];refine⟨by simp[fn31],?_⟩
   simp(disch:=omega)only[go_sem,simprocAttr]
   refine passK_ex (formed_ex (x:=⟨4,node,line,m⟩) W xo (R.app _)) ?_
   rintro y K ⟨⟨l,rfl⟩,rfl⟩
   rw[hfb]
   simp(disch:=omega)only[go_sem,simprocAttr,(r654 wT),(r655 wT),low_app Hb,low_app Hk,List.append_assoc,List.cons_append]
   refine passK_ex (hS (R.app _)) ?_
   rintro y K ⟨f,l2,rfl,rfl,hA⟩
   simp(disch:=omega)only[go_sem,simprocAttr,endK_back]
   refine⟨_,_,rfl,rfl,fun h h'=>?_⟩
   have:=hA h h'
   simp only[List.append_assoc,List.cons_append]at this ⊢
   exact this
  ·obtain⟨e,h6,hS⟩:=msg_run W ts hnl (x:=⟨5,node,line,m⟩) xo hN hos hol
   refine⟨e,fun h=>absurd hf h,fun _ h=>by rw[h6 h];rfl,?_⟩
   intro _ ow rb mb vc vk vd H R
   have Hb:=R.at_
   have Hk:=R.kinds
   unfold kindsC at Hk
   rw[callK_in CxB31 CxP31];refine⟨by simp[fn31],?_⟩
   simp(disch:=omega)only[go_sem,simprocAttr]
   refine passK_ex (formed_ex (x:=⟨5,node,line,m⟩) W xo (R.app _)) ?_
   rintro y K ⟨⟨l,rfl⟩,rfl⟩
   rw[hfb]
   simp(disch:=omega)only[go_sem,simprocAttr,(r654 wT),(r655 wT),low_app Hb,low_app Hk,List.append_assoc,List.cons_append]
   refine passK_ex (hS (R.app _)) ?_
   rintro y K ⟨f,l2,rfl,rfl,hA⟩
   simp(disch:=omega)only[go_sem,simprocAttr,endK_back]
   refine⟨_,_,rfl,rfl,fun h h'=>?_⟩
   have:=hA h h'
   simp only[List.append_assoc,List.cons_append]at this ⊢
   exact this
end
def nextM(net:List Mg)(os:List Nat):List Mg:=os.filterMap fun i=>net[i]?
theorem idxF_none{net:List Mg}{m:Mg}{os:List Nat}(h:m ∉ nextM net os):idxF net m os 0=none:=by
 cases hi:idxF net m os 0 with
 |none=>rfl
 |some j =>
  obtain⟨d,i,-,h1,h2⟩:=idxF_some hi
  exact absurd (List.mem_filterMap.2 ⟨i,List.mem_of_getElem? h1,h2⟩) h
section
variable{w:Wo}{s:Sy}{n:Nat}
open Classical in
theorem step_E(W:w.Run n)(ts:s.Typ n)(hnl:s.net.length≤64){os:List Nat}(hN:EvQ Cx 64 [.sl s.net.length (cells cM s.net),I8 w.net] (.sl os.length (cells cJ os)))(hos:∀ i∈os,i<s.net.length)(hol:os.length≤64) :
  ∃ E:Sp→Int,Esp E n w.lines (nextM s.net os)∧∀ x:Sp,x.Ok→∀ [Kst] {ow:Bool} {rb mb:Nat} {vc vk vd:A} {H:Heap},Rn ow w s rb mb vc vk vd [] H→CallK Cx 31 [.ptr rb 0,eS x] H (StepR w n rb mb ow (E x) H):=by
 have hx:∀ x:Sp,x.Ok→_:=fun x xo=>step_run W ts hnl hN hos hol xo
 refine⟨fun x=>if h:x.Ok then Classical.choose (hx x h)else 0,⟨fun x xo hf=>?_,fun x xo hk hm=>?_⟩,fun x xo=>?_⟩
 ·simp only[dif_pos xo]
  exact(Classical.choose_spec (hx x xo)).1 hf
 ·simp only[dif_pos xo]
  exact(Classical.choose_spec (hx x xo)).2.1 hk (idxF_none hm)
 ·simp only[dif_pos xo]
  exact(Classical.choose_spec (hx x xo)).2.2
theorem dirs_one(s:Sy):ones s.dirs=true:=rfl
theorem begin_ex(wo:w.Ok){vc vk:A}(o1:one vc=true)(o2:one vk=true){H:Heap} :
  CallK Cx 29 [.agg (cW w),.agg (cSy3 vc vk s (.sl s.net.length (cells cM s.net)))] H fun y K=>∃ l rb mb,K=H++l∧y=.ptr rb 0∧K[rb]?=some (some ⟨127,runC w vc vk s (.sl s.net.length (cells cM s.net)) (.mp mb) (.v (.slice none 0 0)),true⟩)∧K[mb]?=some (some ⟨125,kindsC rb,true⟩):=by
 have w1:=cW_one w
 have wl:=cW_len wo
 have s1:ones (cSy3 vc vk s (.sl s.net.length (cells cM s.net)))=true:=by
  unfold cSy3
  simp only[ones,o1,o2,Bool.true_and]
  exact ones_app _ _ (dirs_one s) rfl
 have sl:(cSy3 vc vk s (.sl s.net.length (cells cM s.net))).length=69:=rfl
 have tw:List.take 585 (cW w)=cW w:=List.take_of_length_le (by omega)
 have tS:List.take 69 (cSy3 vc vk s (.sl s.net.length (cells cM s.net)))=cSy3 vc vk s (.sl s.net.length (cells cM s.net)):=List.take_of_length_le (by rw[sl];omega)
 have e:∀ mb,runC w vc vk s (.sl s.net.length (cells cM s.net)) (.mp mb) (.v (.slice none 0 0))=cW w++(cSy3 vc vk s (.sl s.net.length (cells cM s.net))++[.mp mb,.v (.slice none 0 0)]):=fun mb=>by
  unfold runC
  rfl
 generalize cSy3 vc vk s (.sl s.net.length (cells cM s.net))=SS at *
 rw[callK_in CxB29 CxP29];refine⟨by simp[fn29],?_⟩
 have tkw:∀ X,List.take 585 (cW w++X)=cW w:=fun X=>List.take_left' wl
 have dz:∀ X,List.drop 654 (cW w++X)=List.drop 69 X:=fun X=>by
  rw[show(654:Nat)=585+69 from rfl,← List.drop_drop,List.drop_left' wl]
 have o3:ones (cW w++(SS++[.v (.map none),.v (.slice none 0 0)]))=true:=ones_app _ _ w1 (ones_app _ _ s1 rfl)
 have t6:∀ a b c,List.take 654 (cW w++(SS++[a,b]))++c::List.drop 655 (cW w++(SS++[a,b]))=cW w++(SS++[c,b]):=fun a b c=>by
  have hl:(cW w++SS).length=654:=by rw[List.length_append,wl,sl]
  have e1:cW w++(SS++[a,b])=(cW w++SS)++[a,b]:=by simp
  rw[e1,List.take_left' hl,show(655:Nat)=654+1 from rfl,← List.drop_drop,List.drop_left' hl]
  simp
 have e':∀ mb,runC w vc vk s (.sl s.net.length (cells cM s.net)) (.mp mb) (.v (.slice none 0 0))=cW w++(SS++[.mp mb,.v (.slice none 0 0)]):=e
 simp(disch:=omega)only[go_sem,simprocAttr,w1,wl,s1,sl,tw,tS,tkw,dz,o3,t6,endK_back]
 refine⟨_,H.length+2,H.length+3,rfl,rfl,?_,(ap_getk' H _ 3).trans rfl⟩
 rw[e']
 exact(ap_getk' H _ 2).trans rfl
end
def CallY(C:Ctx)(b:Nat)(zs:List A)(H:Heap)(G:A→Heap→Prop):Prop:=∃ x K,EvY C b zs H x K∧G x K
theorem callY_of{C:Ctx}{b:Nat}{zs:List A}{H:Heap}{G:A→Heap→Prop}(h:YlK C b zs (some 0) [] ⟨[],H⟩ [] fun _ st=>∃ x,look st.env 0=some x∧G x st.H):CallY C b zs H G:=by
 obtain⟨x,K,h1,h2⟩:=h
 rw[opsK_nil,runK_nil]at h2
 obtain⟨y,hy,hG⟩:=h2
 simp only[put,look,Nat.beq_refl,cond_true,Option.some.injEq]at hy
 subst hy
 exact⟨_,K,h1,hG⟩
theorem ylK_use{C:Ctx}{b:Nat}{zs:List A}{H:Heap}{G:A→Heap→Prop}{dst:Option Nat}{ms:List MOp}{e:Env}{k:List It}{Q:Ex→Ev.St→Prop}(h:CallY C b zs H G)(hk:∀ x K,G x K→OpsK C 0 ms ⟨put e dst x,K⟩ k Q):YlK C b zs dst ms ⟨e,H⟩ k Q:=by
 obtain⟨x,K,h1,h2⟩:=h
 exact⟨x,K,h1,hk x K h2⟩
def StV(H:Heap)(v:A)(l:List Sp):Prop:=(l=[]∧v=.v (.slice none 0 0))∨(l≠[]∧∃ j,v=.ref j 0 l.length 14∧H[j]?=some (some ⟨62,cells cS l,false⟩))
theorem cS_len(l:List Sp):(cells cS l).length=l.length*14:=cells_len3 cS 14 (fun _=>rfl) l
theorem cS_take(l:List Sp):(cells cS l).take (l.length*14)=cells cS l:=List.take_of_length_le (by rw[cS_len];omega)
theorem cS_snoc(l:List Sp)(x:Sp):cells cS l++cS x=cells cS (l++[x]):=by
 rw[cells_app,cells,cells,List.append_nil]
theorem set_same{α:Type}{l:List α}{i:Nat}{x:α}(h:l[i]?=some x):l.set i x=l:=by
 apply List.ext_getElem?
 intro k
 rw[List.getElem?_set]
 split
 ·rename_i e
  subst e
  rw[h]
  split
  ·rfl
  ·rename_i hl
   exact absurd (List.getElem?_eq_some_iff.1 h).1 hl
 ·rfl
structure SB[Kst](w:Wo)(s:Sy)(rb mb rp lp cp B:Nat)(vc vk:A)(K:Heap):Prop where
 rn:Rn false w s rb mb vc vk (.v (.slice none 0 0)) [] K
 hrp:K[rp]?=some (some ⟨101,[.ptr rb 0],true⟩)
 hcp:K[cp]?=some (some ⟨101,[.ptr rb 0],true⟩)
 hlp:∃ v,K[lp]?=some (some ⟨65,[v],true⟩)
 rec_:K[B]?=some (some ⟨0,[.lrec 36 [19] [5,6] m8_l0 m8_l1,I64 0,I64 0,.ptr rp 0,.ptr lp 0],true⟩)
def SI[Kst](w:Wo)(s:Sy)(rb mb rp lp cp B:Nat)(vc vk:A)(K:Heap)(l:List Sp):Prop:=SB w s rb mb rp lp cp B vc vk K∧∃ v,K[lp]?=some (some ⟨65,[v],true⟩)∧StV K v l
def Kps(K K':Heap):Prop:=∀(j:Nat) (cs:List A),K[j]?=some (some ⟨60,cs,false⟩)→K'[j]?=some (some ⟨60,cs,false⟩)
section
variable{w:Wo}{s:Sy}{n:Nat}{rb mb rp lp cp B:Nat}{vc vk:A}
theorem SB.app[Kst]{K:Heap}(S:SB w s rb mb rp lp cp B vc vk K)(t:Heap):SB w s rb mb rp lp cp B vc vk (K++t):=by
 obtain⟨v,h⟩:=S.hlp
 exact⟨S.rn.app t,low_app S.hrp t,low_app S.hcp t,⟨v,low_app h t⟩,low_app S.rec_ t⟩
theorem SI.app[Kst]{K:Heap}{l:List Sp}(S:SI w s rb mb rp lp cp B vc vk K l)(t:Heap):SI w s rb mb rp lp cp B vc vk (K++t) l:=by
 obtain⟨h,v,h1,h2⟩:=S
 refine⟨h.app t,v,low_app h1 t,?_⟩
 rcases h2 with h2|⟨h0,j,h2,h3⟩
 ·exact .inl h2
 ·exact .inr ⟨h0,j,h2,low_app h3 t⟩
theorem SB.row[Kst]{K:Heap}(S:SB w s rb mb rp lp cp B vc vk K){j:Nat}{cs:List A}(hj:K[j]?=some (some ⟨62,cs,false⟩))(X:Option Blk):SB w s rb mb rp lp cp B vc vk (K.set j X):=by
 obtain⟨v,h⟩:=S.hlp
 exact⟨S.rn.other hj rfl X,low_set S.hrp (ne_el hj S.hrp rfl) X,low_set S.hcp (ne_el hj S.hcp rfl) X,⟨v,low_set h (ne_el hj h rfl) X⟩,low_set S.rec_ (ne_el hj S.rec_ rfl) X⟩
theorem SB.lps[Kst]{K:Heap}(S:SB w s rb mb rp lp cp B vc vk K)(v:A):SB w s rb mb rp lp cp B vc vk (K.set lp (some ⟨65,[v],true⟩)):=by
 obtain⟨v',h⟩:=S.hlp
 exact⟨S.rn.other h rfl _,low_set S.hrp (ne_el h S.hrp rfl) _,low_set S.hcp (ne_el h S.hcp rfl) _,⟨v,set_at h _⟩,low_set S.rec_ (ne_el h S.rec_ rfl) _⟩
theorem yield_ex[Kst](W:w.Run n){E:Sp→Int}(hE:∀ x:Sp,x.Ok→∀ [Kst] {ow:Bool} {rb mb:Nat} {vc vk vd:A} {H:Heap},Rn ow w s rb mb vc vk vd [] H→CallK Cx 31 [.ptr rb 0,eS x] H (StepR w n rb mb ow (E x) H)){K:Heap}{l:List Sp}(S:SI w s rb mb rp lp cp B vc vk K l)(hl:l.length≤1000){x:Sp}(xo:x.Ok) :
  CallY Cx B [eS x] K fun y K'=>y=Bo true∧SI w s rb mb rp lp cp B vc vk K' (if dis (E x)=true then l else l++[x])∧Kps K K':=by
 obtain⟨SBk,v,h2,hv⟩:=S
 have hR:=SBk.rec_
 have h1:=SBk.hrp
 have hRn:=SBk.rn
 refine callY_of ?_
 rw[ylK_in]
 have hBl:=(List.getElem?_eq_some_iff.1 hR).1
 have hsB:=set_lowA hBl
 have gB:=set_at hR
 have g1:=low_set h1 (ne_el hR h1 rfl)
 simp(disch:=omega)only[go_sem,simprocAttr,roundK_some,asgR_go,asgR_some,RecA.blk,zipE,recOf,hR,low_app hR,hsB,low_app (g1 _)]
 refine passK_ex (hE x xo ((hRn.other hR rfl _).app _)) ?_
 rintro y K' ⟨f,L,rfl,rfl,-⟩
 have nBl:=ne_el hR h2 rfl
 have g2:=low_set h2 nBl
 have hlpl:=(List.getElem?_eq_some_iff.1 h2).1
 have sl:∀ X l Y,(K.set B X++l).set lp Y=(K.set B X).set lp Y++l:=fun X l Y=>set_lowA (by rw[List.length_set];exact hlpl) _ _
 have f0:∀ X l,(K.set B X++l).set B (some ⟨0,[.lrec 36 [19] [5,6] m8_l0 m8_l1,I64 0,I64 0,.ptr rp 0,.ptr lp 0],true⟩)=K++l:=fun X l=>by
  rw[set_lowA (by rw[List.length_set];exact hBl),List.set_set,set_same hR]
 have gB1:∀ X Y,((K.set B X).set lp Y)[B]?=some X:=fun X Y=>low_set (gB X) (Ne.symm nBl) Y
 have f1:∀ X Y l,((K.set B X).set lp Y++l).set B (some ⟨0,[.lrec 36 [19] [5,6] m8_l0 m8_l1,I64 0,I64 0,.ptr rp 0,.ptr lp 0],true⟩)=K.set lp Y++l:=fun X Y l=>by
  rw[set_lowA (by rw[List.length_set,List.length_set];exact hBl),List.set_comm _ _ nBl,List.set_set,set_same (low_set hR (Ne.symm nBl) Y)]
 generalize E x=e at *
 unfold dis
 have old:∀ T:Heap,SI w s rb mb rp lp cp B vc vk (K++T) l∧Kps K (K++T):=fun T=>⟨SI.app ⟨SBk,v,h2,hv⟩ T,fun j cs h=>low_app h T⟩
 by_cases q1:e=312
 ·subst q1
  simp(disch:=omega)only[go_sem,simprocAttr,rndR_go,rndR_some,RecA.blk,recOf,List.append_assoc,List.cons_append,low_app (gB _),f0]
  exact old _
 by_cases q2:e=6
 ·subst q2
  simp(disch:=omega)only[go_sem,simprocAttr,rndR_go,rndR_some,RecA.blk,recOf,List.append_assoc,List.cons_append,low_app (gB _),f0]
  exact old _
 by_cases q3:e=272
 ·subst q3
  simp(disch:=omega)only[go_sem,simprocAttr,rndR_go,rndR_some,RecA.blk,recOf,List.append_assoc,List.cons_append,low_app (gB _),f0]
  exact old _
 rcases hv with⟨rfl,rfl⟩|⟨hne,j,rfl,hj⟩
 ·simp(disch:=omega)only[go_sem,simprocAttr,rndR_go,rndR_some,RecA.blk,recOf,List.append_assoc,List.cons_append,low_app (g2 _),low_app (gB1 _ _),f1,sl,beq_no q1,beq_no q2,beq_no q3,maxLen]
  exact⟨⟨(SBk.lps _).app _,_,low_app (set_at h2 _) _,.inr ⟨by simp,_,rfl,(as_getk K _ lp _ _).trans (by rw[List.getElem?_cons_succ];exact ap_getk' L _ 1)⟩⟩,fun j cs h=>low_app (low_set h (ne_el h2 h rfl) _) _⟩
 ·have nBj:=ne_el hR hj rfl
  have nlj:=ne_el h2 hj rfl
  have hjl:=(List.getElem?_eq_some_iff.1 hj).1
  have g3:=low_set hj nBj
  have sj:∀ X l,(K.set B X++l).set j none=(K.set B X).set j none++l:=fun X l=>set_lowA (by rw[List.length_set];exact hjl) _ _
  have g4:∀ X,((K.set B X).set j none)[lp]?=some (some ⟨65,[.ref j 0 l.length 14],true⟩):=fun X=>low_set (g2 X) (Ne.symm nlj) none
  have sl2:∀ X T Y,((K.set B X).set j none++T).set lp Y=((K.set B X).set j none).set lp Y++T:=fun X T Y=>set_lowA (by rw[List.length_set,List.length_set];exact hlpl) _ _
  have gB2:∀ X Y,(((K.set B X).set j none).set lp Y)[B]?=some X:=fun X Y=>low_set (low_set (gB X) (Ne.symm nBj) none) (Ne.symm nBl) Y
  have f2:∀ X Y T,(((K.set B X).set j none).set lp Y++T).set B (some ⟨0,[.lrec 36 [19] [5,6] m8_l0 m8_l1,I64 0,I64 0,.ptr rp 0,.ptr lp 0],true⟩)=(K.set j none).set lp Y++T:=fun X Y T=>by
   rw[set_lowA (by rw[List.length_set,List.length_set,List.length_set];exact hBl),List.set_comm _ _ nBj,List.set_comm _ _ nBl,List.set_set,set_same (low_set (low_set hR (Ne.symm nBj) none) (Ne.symm nBl) Y)]
  simp(disch:=omega)only[go_sem,simprocAttr,rndR_go,rndR_some,RecA.blk,recOf,List.append_assoc,List.cons_append,low_app (g2 _),low_app (g3 _),low_app (g4 _),low_app (gB2 _ _),f2,sl2,sj,beq_no q1,beq_no q2,beq_no q3,cS_len,cS_take,maxLen]
  have e2:(l++[x]).length=l.length+1:=by simp
  refine⟨⟨((SBk.row hj none).lps _).app _,_,low_app (set_at (low_set h2 (Ne.symm nlj) none) _) _,.inr ⟨by simp,_,by rw[e2],?_⟩⟩,fun j cs h=>low_app (low_set (low_set h (ne_el hj h rfl) _) (ne_el h2 h rfl) _) _⟩
  rw[← cS_snoc]
  have q:∀ T Y k,((K.set j none).set lp Y++T)[K.length+k]?=T[k]?:=fun T Y k=>by
   have:=as_getk (K.set j none) T lp Y k
   rwa [List.length_set]at this
  exact(q _ _ _).trans (by rw[List.getElem?_cons_succ];exact ap_getk' L _ 1)
end
end Go.Proofs.YtpdphobnchajbaaGreatDoor.Ev
