/- (Its loops lie in the context.) -/
import Derived.Test.YtpdphobnchajbaaGreatDoorQ06
set_option linter.unusedSimpArgs false
set_option linter.unusedVariables false

namespace Go.Proofs.YtpdphobnchajbaaGreatDoor.Ev
open Go Go.RowKit
set_option maxRecDepth 100000
noncomputable def aLE(n:Nat):Int:=match(pT Cx 60).1 250 [I8 n]with
 |some (.v (.int .i64 c))=>c
 |_=>-1
noncomputable def aOE(n:Nat):Bool:=match(pT Cx 60).1 250 [I8 n]with
 |some (.v (.int .i64 _))=>true
 |_=>false
theorem aG4:(List.range 256).all aOE=true:=by kernel_rfl
noncomputable def gC(b:UInt8):Int:=aLE b.toNat
theorem gL(b:UInt8):EvQ Cx 250 [I8 b.toNat] (I64 (gC b)):=by
 have hm:=List.all_eq_true.1 aG4 b.toNat (List.mem_range.2 b.toNat_lt)
 unfold aOE at hm
 unfold gC aLE
 split at hm
 ·rename_i c h
  exact bI 60 h
 ·cases hm
theorem bU{α:Type}{H:List α}{i:Nat}{a:α}(h:H[i]?=some a)(y:α):(H.set i y)[i]?=some y:=List.getElem?_set_self (List.getElem?_eq_some_iff.1 h).1
theorem set_set{α:Type}(H:List α)(i:Nat)(x y:α):(H.set i x).set i y=H.set i y:=by simp
theorem vE{α:Type}{H:List α}{i:Nat}{a:α}(h:H[i]?=some a):H.set i a=H:=by
 obtain⟨hlt,hk⟩:=List.getElem?_eq_some_iff.1 h
 rw[← hk]
 exact List.set_getElem_self hlt
theorem aKt(x:ByteArray):(x==x)=true:=by
 cases x with
 |mk d=>exact(beq_self_eq_true d:(d==d)=true)
attribute [go_sem] aKt
def scB(s:ByteArray)(p:Nat)(o:Bool):Option Blk:=some ⟨364,[Sv s,I64 p,Bo o],true⟩
section
variable{s:ByteArray}{p b:Nat}{o:Bool}{H:aG}{dst:Option Nat}{ms:List MOp}{e:Env}{k:List It}{Q:Ex→Ev.St→Prop}
theorem aAv(hH:H[b]?=some (scB s p o)):bB Cx 342 [.ptr b 0] dst ms ⟨e,H⟩ k Q↔iH Cx 0 ms ⟨put e dst (Bo (decide (s.size≤p))),H⟩ k Q:=by
 unfold scB at hH
 rw[aK aCv aZ5]
 by_cases h:s.size≤p
 ·rw[decide_eq_true h]
  simp(disch:=omega)only[go_sem,simprocAttr,hH]
 ·rw[decide_eq_false h]
  simp(disch:=omega)only[go_sem,simprocAttr,hH]
theorem y7(s:ByteArray)(p:Nat)(o:Bool):EvQ Cx 342 [.fp [Sv s,I64 p,Bo o]] (Bo (decide (s.size≤p))):=by
 refine aX aCv rfl (by simp[MN]) ?_
 by_cases h:s.size≤p
 ·rw[decide_eq_true h]
  simp(disch:=omega)only[go_sem,simprocAttr]
 ·rw[decide_eq_false h]
  simp(disch:=omega)only[go_sem,simprocAttr]
noncomputable def YC:List UInt8→Bool
 |[]=>true
 |c::_=>gC c==2
theorem gS(s:ByteArray)(p:Nat):(s.data.toList.drop p=[]∧s.size≤p)∨∃ c l,s.data.toList.drop p=c::l∧p<s.size∧s[p]?=some c∧s.data.toList.drop (p+1)=l:=by
 cases hd:s.data.toList.drop p with
 |nil =>
  left
  have:=congrArg List.length hd
  rw[List.length_drop,jJ]at this
  simp at this
  exact⟨rfl,by omega⟩
 |cons c l =>
  right
  have hz:p<s.size:=by
   have:=congrArg List.length hd
   rw[List.length_drop,jJ]at this
   simp at this
   omega
  refine⟨c,l,rfl,hz,?_,?_⟩
  ·have h:=congrArg (·[0]?) hd
   simp only[List.getElem?_drop,Nat.add_zero,List.getElem?_cons_zero]at h
   have h3:s[p]=c:=by
    have h4:=(List.getElem?_eq_some_iff.1 h).2
    rw[Array.getElem_toList]at h4
    exact h4
   rw[getElem?_pos s p hz,h3]
  ·rw[← List.drop_drop,hd]
   rfl
theorem DU(hH:H[b]?=some (scB s p o)):bB Cx 340 [.ptr b 0] dst ms ⟨e,H⟩ k Q↔iH Cx 0 ms ⟨put e dst (Bo (YC (s.data.toList.drop p))),H⟩ k Q:=by
 have ho:=y7 s p o
 unfold scB at hH
 rw[aK aYl aY4]
 rcases gS s p with⟨hd,hz⟩|⟨c,l,hd,hz,hc,-⟩
 ·rw[hd,YC]
  have hdz:decide (s.size≤p)=true:=decide_eq_true hz
  simp(disch:=omega)only[go_sem,simprocAttr,hH,QK.use ho,hdz]
 ·rw[hd,YC]
  have hdz:decide (s.size≤p)=false:=decide_eq_false (by omega)
  have hcl:=gL c
  generalize gC c=n at *
  simp(disch:=omega)only[go_sem,simprocAttr,hH,QK.use ho,hdz,hc,aD fM,QK.use hcl]
noncomputable def kT:List UInt8→Nat
 |[]=>0
 |c::l=>if gC c=1 then kT l+1 else 0
noncomputable def yO:List UInt8→Nat
 |[]=>0
 |c::l=>if gC c=2 then 0 else yO l+1
theorem OQ:∀(l:List UInt8) (p:Nat) (H:aG),s.data.toList.drop p=l→s.size≤16384→H[b]?=some (scB s p o) →
  (∀ e:Env,cI e 0=some (.ptr b 0)→dN Cx (.out 0) k ⟨e,H.set b (scB s (p+kT l) o)⟩ Q) →
  bG Cx (.code (.loop WH)::k) ⟨[(0,.ptr b 0)],H⟩ Q:=by
 intro l
 induction l with
 |nil =>
  intro p H hd hs hH hE
  have hz:s.size≤p:=by
   have:=congrArg List.length hd
   rw[List.length_drop,jJ]at this
   simp at this
   omega
  have ho:=y7 s p o
  have hdz:decide (s.size≤p)=true:=decide_eq_true hz
  rw[kT,Nat.add_zero,vE hH]at hE
  unfold scB at hH
  rw[aA]
  simp(disch:=omega)only[go_sem,simprocAttr,hH,QK.use ho,hdz]
  exact hE _ rfl
 |cons c l ih =>
  intro p H hd hs hH hE
  rcases gS s p with⟨hd',-⟩|⟨c',l',hd',hz,hc,hl⟩
  ·rw[hd]at hd'
   cases hd'
  ·rw[hd]at hd'
   injection hd' with h1 h2
   subst h1
   subst h2
   have ho:=y7 s p o
   have hdz:decide (s.size≤p)=false:=decide_eq_false (by omega)
   have hcl:=gL c
   rw[kT]at hE
   by_cases h1:gC c=1
   ·rw[if_pos h1]at hE
    rw[h1]at hcl
    have hst:=ih (p+1) (H.set b (scB s (p+1) o)) hl hs (bU hH _) (fun e h=>by
     rw[set_set,Nat.add_assoc,Nat.add_comm 1]
     exact hE e h)
    unfold scB at hH hst
    simp only[Int.natCast_add,Int.cast_ofNat_Int]at hst
    rw[aA]
    simp(disch:=omega)only[go_sem,simprocAttr,hH,QK.use ho,hdz,hc,aD fM,QK.use hcl]
    rw[aB (l:=[0]) rfl]
    simp(disch:=omega)only[go_sem,simprocAttr]
    exact hst
   ·rw[if_neg h1,Nat.add_zero,vE hH]at hE
    unfold scB at hH
    rw[aA]
    generalize gC c=n at *
    simp(disch:=omega)only[go_sem,simprocAttr,hH,QK.use ho,hdz,hc,aD fM,QK.use hcl]
    exact hE _ rfl
end
theorem nK{C:Ctx}{f:FuncId}{l:List A}{H H':aG}{x:A}(h:bW C f l H fun y K=>y=x∧K=H'):EvO C f l H x H':=by
 obtain⟨y,K,h1,rfl,rfl⟩:=h
 exact h1
theorem eT{C:Ctx}{f:FuncId}{zs:List A}{dst:Option Nat}{ms:List MOp}{e:Env}{H:aG}{k:List It}{Q:Ex→Ev.St→Prop}{x:A}{H':aG}(h:EvO C f zs H x H') :
  bB C f zs dst ms ⟨e,H⟩ k Q↔iH C 0 ms ⟨put e dst x,H'⟩ k Q:=by
 constructor
 ·rintro⟨x1,H1,h1,h2⟩
  obtain⟨rfl,rfl⟩:=h.one h1
  exact h2
 ·exact fun h2=>⟨x,H',h,h2⟩
noncomputable def wP:List UInt8→Nat
 |[]=>0
 |c::l=>if gC c=7 then yO (c::l)else 0
noncomputable def HY(l:List UInt8):Nat:=kT l+wP (l.drop (kT l))
section
variable{s:ByteArray}{p b:Nat}{o:Bool}{H:aG}{dst:Option Nat}{ms:List MOp}{e:Env}{k:List It}{Q:Ex→Ev.St→Prop}
theorem OZ:∀(l:List UInt8) (p:Nat) (H:aG),s.data.toList.drop p=l→s.size≤16384→H[b]?=some (scB s p o) →
  (∀ e:Env,dN Cx (.out 2) k ⟨e,H.set b (scB s (p+yO l) o)⟩ Q) →
  bG Cx (.code (.loop VM)::k) ⟨[(0,.ptr b 0)],H⟩ Q:=by
 intro l
 induction l with
 |nil =>
  intro p H hd hs hH hE
  have hk:=fun {dst ms e k Q}=>DU (dst:=dst) (ms:=ms) (e:=e) (k:=k) (Q:=Q) hH
  simp only[hd,YC]at hk
  rw[yO,Nat.add_zero,vE hH]at hE
  unfold scB at hH
  rw[aA]
  simp(disch:=omega)only[go_sem,simprocAttr,hk]
  exact hE _
 |cons c l ih =>
  intro p H hd hs hH hE
  rcases gS s p with⟨hd',-⟩|⟨c',l',hd',hz,hc,hl⟩
  ·rw[hd]at hd'
   cases hd'
  ·rw[hd]at hd'
   injection hd' with h1 h2
   subst h1
   subst h2
   have hk:=fun {dst ms e k Q}=>DU (dst:=dst) (ms:=ms) (e:=e) (k:=k) (Q:=Q) hH
   simp only[hd,YC]at hk
   rw[yO]at hE
   by_cases h1:gC c=2
   ·rw[if_pos h1,Nat.add_zero,vE hH]at hE
    simp only[h1,beq_self_eq_true]at hk
    unfold scB at hH
    rw[aA]
    simp(disch:=omega)only[go_sem,simprocAttr,hk]
    exact hE _
   ·rw[if_neg h1]at hE
    have hb:(gC c==2)=false:=by simpa using h1
    simp only[hb]at hk
    have hst:=ih (p+1) (H.set b (scB s (p+1) o)) hl hs (bU hH _) (fun e=>by
     rw[set_set,Nat.add_assoc,Nat.add_comm 1]
     exact hE e)
    unfold scB at hH hst
    simp only[Int.natCast_add,Int.cast_ofNat_Int]at hst
    rw[aA]
    simp(disch:=omega)only[go_sem,simprocAttr,hH,hk]
    rw[aB (l:=[0]) rfl]
    simp(disch:=omega)only[go_sem,simprocAttr]
    exact hst
theorem aKB(hs:s.size≤16384)(hH:H[b]?=some (scB s p o)):EvO Cx 339 [.ptr b 0] H (.tup []) (H.set b (scB s (p+HY (s.data.toList.drop p)) o)):=by
 refine nK ?_
 rw[aP aXe aVR]
 refine⟨by simp[GZ],?_⟩
 simp(disch:=omega)only[go_sem,simprocAttr]
 refine OQ (s.data.toList.drop p) p H rfl hs hH fun e e0=>?_
 unfold HY
 generalize hq:p+kT (s.data.toList.drop p)=q
 have hdq:(s.data.toList.drop p).drop (kT (s.data.toList.drop p))=s.data.toList.drop q:=by rw[List.drop_drop,hq]
 rw[hdq,← Nat.add_assoc,hq]
 have hH':(H.set b (scB s q o))[b]?=some (scB s q o):=bU hH _
 have hset:H.set b (scB s (q+wP (s.data.toList.drop q)) o)=(H.set b (scB s q o)).set b (scB s (q+wP (s.data.toList.drop q)) o):=(set_set _ _ _ _).symm
 rw[hset]
 generalize H.set b (scB s q o)=H' at hH' ⊢
 have ho:=y7 s q o
 have hU:=hH'
 unfold scB at hU
 rcases gS s q with⟨hd,hz⟩|⟨c,l,hd,hz,hc,hl⟩
 ·rw[hd,wP,Nat.add_zero,vE hH']
  have hdz:decide (s.size≤q)=true:=decide_eq_true hz
  simp(disch:=omega)only[go_sem,simprocAttr,aE,e0,hU,QK.use ho,hdz]
  exact⟨_,rfl,rfl⟩
 ·have hdz:decide (s.size≤q)=false:=decide_eq_false (by omega)
  have hcl:=gL c
  by_cases h7:gC c=7
  ·rw[h7]at hcl
   simp(disch:=omega)only[go_sem,simprocAttr,e0,hU,QK.use ho,hdz,hc,aD fM,QK.use hcl]
   rw[aB (l:=[0]) rfl]
   simp(disch:=omega)only[go_sem,simprocAttr]
   refine OZ (s.data.toList.drop q) q H' rfl hs hH' fun e=>?_
   rw[hd,wP,if_pos h7]
   simp(disch:=omega)only[go_sem,simprocAttr,aW]
   exact⟨_,rfl,rfl⟩
  ·rw[hd,wP,if_neg h7,Nat.add_zero,vE hH']
   generalize gC c=n at *
   simp(disch:=omega)only[go_sem,simprocAttr,aE,e0,hU,QK.use ho,hdz,hc,aD fM,QK.use hcl]
   exact⟨_,rfl,rfl⟩
end
end Go.Proofs.YtpdphobnchajbaaGreatDoor.Ev
