/- (Its loops lie in the context.) -/
import Derived.Test.YtpdphobnchajbaaGreatDoorP06
set_option linter.unusedSimpArgs false
set_option linter.unusedVariables false

namespace Go.Proofs.YtpdphobnchajbaaGreatDoor.Ev
open Go Go.RowKit
set_option maxRecDepth 100000
noncomputable def clsK(n:Nat):Int:=match(callsF Cx 60).1 250 [I8 n]with
 |some (.v (.int .i64 c))=>c
 |_=>-1
noncomputable def clsOk(n:Nat):Bool:=match(callsF Cx 60).1 250 [I8 n]with
 |some (.v (.int .i64 _))=>true
 |_=>false
theorem cls_all:(List.range 256).all clsOk=true:=by kernel_rfl
noncomputable def clsB(b:UInt8):Int:=clsK b.toNat
theorem clsB_ev(b:UInt8):EvQ Cx 250 [I8 b.toNat] (I64 (clsB b)):=by
 have hm:=List.all_eq_true.1 cls_all b.toNat (List.mem_range.2 b.toNat_lt)
 unfold clsOk at hm
 unfold clsB clsK
 split at hm
 ·rename_i c h
  exact evQ_fast 60 h
 ·cases hm
theorem set_at{α:Type}{H:List α}{i:Nat}{a:α}(h:H[i]?=some a)(y:α):(H.set i y)[i]?=some y:=List.getElem?_set_self (List.getElem?_eq_some_iff.1 h).1
theorem set_set{α:Type}(H:List α)(i:Nat)(x y:α):(H.set i x).set i y=H.set i y:=by simp
theorem set_id{α:Type}{H:List α}{i:Nat}{a:α}(h:H[i]?=some a):H.set i a=H:=by
 obtain⟨hlt,hk⟩:=List.getElem?_eq_some_iff.1 h
 rw[← hk]
 exact List.set_getElem_self hlt
theorem bb_refl(x:ByteArray):(x==x)=true:=by
 cases x with
 |mk d=>exact(beq_self_eq_true d:(d==d)=true)
attribute [go_sem] bb_refl
def scB(s:ByteArray)(p:Nat)(o:Bool):Option Blk:=some ⟨364,[Sv s,I64 p,Bo o],true⟩
section
variable{s:ByteArray}{p b:Nat}{o:Bool}{H:Heap}{dst:Option Nat}{ms:List MOp}{e:Env}{k:List It}{Q:Ex→Ev.St→Prop}
theorem over_k(hH:H[b]?=some (scB s p o)):PassK Cx 342 [.ptr b 0] dst ms ⟨e,H⟩ k Q↔OpsK Cx 0 ms ⟨put e dst (Bo (decide (s.size≤p))),H⟩ k Q:=by
 unfold scB at hH
 rw[passK_in CxB342 CxP342]
 by_cases h:s.size≤p
 ·rw[decide_eq_true h]
  simp(disch:=omega)only[go_sem,simprocAttr,hH]
 ·rw[decide_eq_false h]
  simp(disch:=omega)only[go_sem,simprocAttr,hH]
theorem over_q(s:ByteArray)(p:Nat)(o:Bool):EvQ Cx 342 [.fp [Sv s,I64 p,Bo o]] (Bo (decide (s.size≤p))):=by
 refine evQ_of CxB342 rfl (by simp[fn342]) ?_
 by_cases h:s.size≤p
 ·rw[decide_eq_true h]
  simp(disch:=omega)only[go_sem,simprocAttr]
 ·rw[decide_eq_false h]
  simp(disch:=omega)only[go_sem,simprocAttr]
noncomputable def eolB:List UInt8→Bool
 |[]=>true
 |c::_=>clsB c==2
theorem drop_cases(s:ByteArray)(p:Nat):(s.data.toList.drop p=[]∧s.size≤p)∨∃ c l,s.data.toList.drop p=c::l∧p<s.size∧s[p]?=some c∧s.data.toList.drop (p+1)=l:=by
 cases hd:s.data.toList.drop p with
 |nil =>
  left
  have:=congrArg List.length hd
  rw[List.length_drop,size_data]at this
  simp at this
  exact⟨rfl,by omega⟩
 |cons c l =>
  right
  have hz:p<s.size:=by
   have:=congrArg List.length hd
   rw[List.length_drop,size_data]at this
   simp at this
   omega
  refine⟨c,l,rfl,hz,?_,?_⟩
  ·have h:=congrArg (·[0]?) hd
   simp only[List.getElem?_drop,Nat.add_zero,List.getElem?_cons_zero]at h
   have h3:s[p]=c:=by
    have h4:=(List.getElem?_eq_some_iff.1 h).2
    rw[Array.getElem_toList]at h4
    exact h4
   rw[getElem?_pos s p hz,h3]
  ·rw[← List.drop_drop,hd]
   rfl
theorem atEnd_k(hH:H[b]?=some (scB s p o)):PassK Cx 340 [.ptr b 0] dst ms ⟨e,H⟩ k Q↔OpsK Cx 0 ms ⟨put e dst (Bo (eolB (s.data.toList.drop p))),H⟩ k Q:=by
 have ho:=over_q s p o
 unfold scB at hH
 rw[passK_in CxB340 CxP340]
 rcases drop_cases s p with⟨hd,hz⟩|⟨c,l,hd,hz,hc,-⟩
 ·rw[hd,eolB]
  have hdz:decide (s.size≤p)=true:=decide_eq_true hz
  simp(disch:=omega)only[go_sem,simprocAttr,hH,QK.use ho,hdz]
 ·rw[hd,eolB]
  have hdz:decide (s.size≤p)=false:=decide_eq_false (by omega)
  have hcl:=clsB_ev c
  generalize clsB c=n at *
  simp(disch:=omega)only[go_sem,simprocAttr,hH,QK.use ho,hdz,hc,passK_shut CxP250,QK.use hcl]
noncomputable def blankN:List UInt8→Nat
 |[]=>0
 |c::l=>if clsB c=1 then blankN l+1 else 0
noncomputable def lineN:List UInt8→Nat
 |[]=>0
 |c::l=>if clsB c=2 then 0 else lineN l+1
theorem pass_loop1:∀(l:List UInt8) (p:Nat) (H:Heap),s.data.toList.drop p=l→s.size≤16384→H[b]?=some (scB s p o) →
  (∀ e:Env,look e 0=some (.ptr b 0)→UnwK Cx (.out 0) k ⟨e,H.set b (scB s (p+blankN l) o)⟩ Q) →
  RunK Cx (.code (.loop m339_l0)::k) ⟨[(0,.ptr b 0)],H⟩ Q:=by
 intro l
 induction l with
 |nil =>
  intro p H hd hs hH hE
  have hz:s.size≤p:=by
   have:=congrArg List.length hd
   rw[List.length_drop,size_data]at this
   simp at this
   omega
  have ho:=over_q s p o
  have hdz:decide (s.size≤p)=true:=decide_eq_true hz
  rw[blankN,Nat.add_zero,set_id hH]at hE
  unfold scB at hH
  rw[runK_loop]
  simp(disch:=omega)only[go_sem,simprocAttr,hH,QK.use ho,hdz]
  exact hE _ rfl
 |cons c l ih =>
  intro p H hd hs hH hE
  rcases drop_cases s p with⟨hd',-⟩|⟨c',l',hd',hz,hc,hl⟩
  ·rw[hd]at hd'
   cases hd'
  ·rw[hd]at hd'
   injection hd' with h1 h2
   subst h1
   subst h2
   have ho:=over_q s p o
   have hdz:decide (s.size≤p)=false:=decide_eq_false (by omega)
   have hcl:=clsB_ev c
   rw[blankN]at hE
   by_cases h1:clsB c=1
   ·rw[if_pos h1]at hE
    rw[h1]at hcl
    have hst:=ih (p+1) (H.set b (scB s (p+1) o)) hl hs (set_at hH _) (fun e h=>by
     rw[set_set,Nat.add_assoc,Nat.add_comm 1]
     exact hE e h)
    unfold scB at hH hst
    simp only[Int.natCast_add,Int.cast_ofNat_Int]at hst
    rw[runK_loop]
    simp(disch:=omega)only[go_sem,simprocAttr,hH,QK.use ho,hdz,hc,passK_shut CxP250,QK.use hcl]
    rw[loop_norm (l:=[0]) rfl]
    simp(disch:=omega)only[go_sem,simprocAttr]
    exact hst
   ·rw[if_neg h1,Nat.add_zero,set_id hH]at hE
    unfold scB at hH
    rw[runK_loop]
    generalize clsB c=n at *
    simp(disch:=omega)only[go_sem,simprocAttr,hH,QK.use ho,hdz,hc,passK_shut CxP250,QK.use hcl]
    exact hE _ rfl
end
theorem callK_evO{C:Ctx}{f:FuncId}{l:List A}{H H':Heap}{x:A}(h:CallK C f l H fun y K=>y=x∧K=H'):EvO C f l H x H':=by
 obtain⟨y,K,h1,rfl,rfl⟩:=h
 exact h1
theorem passK_evO{C:Ctx}{f:FuncId}{zs:List A}{dst:Option Nat}{ms:List MOp}{e:Env}{H:Heap}{k:List It}{Q:Ex→Ev.St→Prop}{x:A}{H':Heap}(h:EvO C f zs H x H') :
  PassK C f zs dst ms ⟨e,H⟩ k Q↔OpsK C 0 ms ⟨put e dst x,H'⟩ k Q:=by
 constructor
 ·rintro⟨x1,H1,h1,h2⟩
  obtain⟨rfl,rfl⟩:=h.one h1
  exact h2
 ·exact fun h2=>⟨x,H',h,h2⟩
noncomputable def hashN:List UInt8→Nat
 |[]=>0
 |c::l=>if clsB c=7 then lineN (c::l)else 0
noncomputable def passN(l:List UInt8):Nat:=blankN l+hashN (l.drop (blankN l))
section
variable{s:ByteArray}{p b:Nat}{o:Bool}{H:Heap}{dst:Option Nat}{ms:List MOp}{e:Env}{k:List It}{Q:Ex→Ev.St→Prop}
theorem pass_loop2:∀(l:List UInt8) (p:Nat) (H:Heap),s.data.toList.drop p=l→s.size≤16384→H[b]?=some (scB s p o) →
  (∀ e:Env,UnwK Cx (.out 2) k ⟨e,H.set b (scB s (p+lineN l) o)⟩ Q) →
  RunK Cx (.code (.loop m339_l1)::k) ⟨[(0,.ptr b 0)],H⟩ Q:=by
 intro l
 induction l with
 |nil =>
  intro p H hd hs hH hE
  have hk:=fun {dst ms e k Q}=>atEnd_k (dst:=dst) (ms:=ms) (e:=e) (k:=k) (Q:=Q) hH
  simp only[hd,eolB]at hk
  rw[lineN,Nat.add_zero,set_id hH]at hE
  unfold scB at hH
  rw[runK_loop]
  simp(disch:=omega)only[go_sem,simprocAttr,hk]
  exact hE _
 |cons c l ih =>
  intro p H hd hs hH hE
  rcases drop_cases s p with⟨hd',-⟩|⟨c',l',hd',hz,hc,hl⟩
  ·rw[hd]at hd'
   cases hd'
  ·rw[hd]at hd'
   injection hd' with h1 h2
   subst h1
   subst h2
   have hk:=fun {dst ms e k Q}=>atEnd_k (dst:=dst) (ms:=ms) (e:=e) (k:=k) (Q:=Q) hH
   simp only[hd,eolB]at hk
   rw[lineN]at hE
   by_cases h1:clsB c=2
   ·rw[if_pos h1,Nat.add_zero,set_id hH]at hE
    simp only[h1,beq_self_eq_true]at hk
    unfold scB at hH
    rw[runK_loop]
    simp(disch:=omega)only[go_sem,simprocAttr,hk]
    exact hE _
   ·rw[if_neg h1]at hE
    have hb:(clsB c==2)=false:=by simpa using h1
    simp only[hb]at hk
    have hst:=ih (p+1) (H.set b (scB s (p+1) o)) hl hs (set_at hH _) (fun e=>by
     rw[set_set,Nat.add_assoc,Nat.add_comm 1]
     exact hE e)
    unfold scB at hH hst
    simp only[Int.natCast_add,Int.cast_ofNat_Int]at hst
    rw[runK_loop]
    simp(disch:=omega)only[go_sem,simprocAttr,hH,hk]
    rw[loop_norm (l:=[0]) rfl]
    simp(disch:=omega)only[go_sem,simprocAttr]
    exact hst
theorem pass_ev(hs:s.size≤16384)(hH:H[b]?=some (scB s p o)):EvO Cx 339 [.ptr b 0] H (.tup []) (H.set b (scB s (p+passN (s.data.toList.drop p)) o)):=by
 refine callK_evO ?_
 rw[callK_in CxB339 CxP339]
 refine⟨by simp[fn339],?_⟩
 simp(disch:=omega)only[go_sem,simprocAttr]
 refine pass_loop1 (s.data.toList.drop p) p H rfl hs hH fun e e0=>?_
 unfold passN
 generalize hq:p+blankN (s.data.toList.drop p)=q
 have hdq:(s.data.toList.drop p).drop (blankN (s.data.toList.drop p))=s.data.toList.drop q:=by rw[List.drop_drop,hq]
 rw[hdq,← Nat.add_assoc,hq]
 have hH':(H.set b (scB s q o))[b]?=some (scB s q o):=set_at hH _
 have hset:H.set b (scB s (q+hashN (s.data.toList.drop q)) o)=(H.set b (scB s q o)).set b (scB s (q+hashN (s.data.toList.drop q)) o):=(set_set _ _ _ _).symm
 rw[hset]
 generalize H.set b (scB s q o)=H' at hH' ⊢
 have ho:=over_q s q o
 have hU:=hH'
 unfold scB at hU
 rcases drop_cases s q with⟨hd,hz⟩|⟨c,l,hd,hz,hc,hl⟩
 ·rw[hd,hashN,Nat.add_zero,set_id hH']
  have hdz:decide (s.size≤q)=true:=decide_eq_true hz
  simp(disch:=omega)only[go_sem,simprocAttr,endK_back,e0,hU,QK.use ho,hdz]
  exact⟨_,rfl,rfl⟩
 ·have hdz:decide (s.size≤q)=false:=decide_eq_false (by omega)
  have hcl:=clsB_ev c
  by_cases h7:clsB c=7
  ·rw[h7]at hcl
   simp(disch:=omega)only[go_sem,simprocAttr,e0,hU,QK.use ho,hdz,hc,passK_shut CxP250,QK.use hcl]
   rw[loop_norm (l:=[0]) rfl]
   simp(disch:=omega)only[go_sem,simprocAttr]
   refine pass_loop2 (s.data.toList.drop q) q H' rfl hs hH' fun e=>?_
   rw[hd,hashN,if_pos h7]
   simp(disch:=omega)only[go_sem,simprocAttr,endK_go]
   exact⟨_,rfl,rfl⟩
  ·rw[hd,hashN,if_neg h7,Nat.add_zero,set_id hH']
   generalize clsB c=n at *
   simp(disch:=omega)only[go_sem,simprocAttr,endK_back,e0,hU,QK.use ho,hdz,hc,passK_shut CxP250,QK.use hcl]
   exact⟨_,rfl,rfl⟩
end
end Go.Proofs.YtpdphobnchajbaaGreatDoor.Ev
