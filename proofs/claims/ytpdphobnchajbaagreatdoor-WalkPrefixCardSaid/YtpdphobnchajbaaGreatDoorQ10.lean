/- Lexing: where a word, a number, a sign ends. -/
import Derived.Test.YtpdphobnchajbaaGreatDoorQ07
set_option linter.unusedSimpArgs false
set_option linter.unusedVariables false
namespace Go.Proofs.YtpdphobnchajbaaGreatDoor.Ev
open Go Go.RowKit
set_option maxRecDepth 100000
noncomputable def a5A(n:Nat):Bool:=match(pT Cx 60).1 252 [I8 n]with
 |some (.v (.bool c))=>c
 |_=>false
noncomputable def aN6(n:Nat):Bool:=match(pT Cx 60).1 252 [I8 n]with
 |some (.v (.bool _))=>true
 |_=>false
theorem aHm:(List.range 256).all aN6=true:=by kernel_rfl
noncomputable def aGz(b:UInt8):Bool:=a5A b.toNat
theorem aNL(b:UInt8):EvQ Cx 252 [I8 b.toNat] (Bo (aGz b)):=by
 have hm:=List.all_eq_true.1 aHm b.toNat (List.mem_range.2 b.toNat_lt)
 unfold aN6 at hm
 unfold aGz a5A
 split at hm
 ·rename_i c h
  exact bI 60 h
 ·cases hm
noncomputable def p8:List UInt8→Nat
 |[]=>0
 |c::l=>if aGz c=true then p8 l+1 else 0
noncomputable def AR:List UInt8→Nat
 |[]=>0
 |c::l=>if gC c=4 then AR l+1 else 0
section
variable{s:ByteArray}{p b:Nat}{o:Bool}{H:aG}{k:List It}{Q:Ex→Ev.St→Prop}
theorem ZN(hs:s.size≤16384)(hH:H[b]?=some (scB s p o)):∀(l:List UInt8) (q:Nat),s.data.toList.drop q=l →
  (∀ e:Env,cI e 3=some (I64 ((q+p8 l:Nat):Int))→dN Cx (.out 0) k ⟨e,H⟩ Q) →
  bG Cx (.code (.loop RR)::k) ⟨[(0,.ptr b 0),(3,I64 q)],H⟩ Q:=by
 unfold scB at hH
 intro l
 induction l with
 |nil =>
  intro q hd hE
  have hz:s.size≤q:=by
   have:=congrArg List.length hd
   rw[List.length_drop,jJ]at this
   simp at this
   omega
  rw[p8,Nat.add_zero]at hE
  rw[aA]
  simp(disch:=omega)only[go_sem,simprocAttr,hH]
  exact hE _ rfl
 |cons c l ih =>
  intro q hd hE
  rcases gS s q with⟨hd',-⟩|⟨c',l',hd',hz,hc,hl⟩
  ·rw[hd]at hd'
   cases hd'
  ·rw[hd]at hd'
   injection hd' with h1 h2
   subst h1
   subst h2
   have hcl:=aNL c
   rw[p8]at hE
   rw[aA]
   cases hw:aGz c with
   |true =>
    rw[if_pos hw]at hE
    rw[hw]at hcl
    have hst:=ih (q+1) hl (fun e h=>hE e (by rw[h,Nat.add_assoc,Nat.add_comm 1]))
    simp only[Int.natCast_add,Int.cast_ofNat_Int]at hst
    simp(disch:=omega)only[go_sem,simprocAttr,hH,hc,aD P0,QK.use hcl]
    rw[aB (l:=[0,3]) rfl]
    simp(disch:=omega)only[go_sem,simprocAttr]
    exact hst
   |false =>
    rw[if_neg (by rw[hw];simp),Nat.add_zero]at hE
    rw[hw]at hcl
    simp(disch:=omega)only[go_sem,simprocAttr,hH,hc,aD P0,QK.use hcl]
    exact hE _ rfl
theorem aAI(hs:s.size≤16384)(hH:H[b]?=some (scB s p o)):∀(l:List UInt8) (q:Nat),s.data.toList.drop q=l →
  (∀ e:Env,cI e 3=some (I64 ((q+AR l:Nat):Int))→dN Cx (.out 0) k ⟨e,H⟩ Q) →
  bG Cx (.code (.loop V0)::k) ⟨[(0,.ptr b 0),(3,I64 q)],H⟩ Q:=by
 unfold scB at hH
 intro l
 induction l with
 |nil =>
  intro q hd hE
  have hz:s.size≤q:=by
   have:=congrArg List.length hd
   rw[List.length_drop,jJ]at this
   simp at this
   omega
  rw[AR,Nat.add_zero]at hE
  rw[aA]
  simp(disch:=omega)only[go_sem,simprocAttr,hH]
  exact hE _ rfl
 |cons c l ih =>
  intro q hd hE
  rcases gS s q with⟨hd',-⟩|⟨c',l',hd',hz,hc,hl⟩
  ·rw[hd]at hd'
   cases hd'
  ·rw[hd]at hd'
   injection hd' with h1 h2
   subst h1
   subst h2
   have hcl:=gL c
   rw[AR]at hE
   rw[aA]
   by_cases hw:gC c=4
   ·rw[if_pos hw]at hE
    rw[hw]at hcl
    have hst:=ih (q+1) hl (fun e h=>hE e (by rw[h,Nat.add_assoc,Nat.add_comm 1]))
    simp only[Int.natCast_add,Int.cast_ofNat_Int]at hst
    simp(disch:=omega)only[go_sem,simprocAttr,hH,hc,aD fM,QK.use hcl]
    rw[aB (l:=[0,3]) rfl]
    simp(disch:=omega)only[go_sem,simprocAttr]
    exact hst
   ·rw[if_neg hw,Nat.add_zero]at hE
    generalize gC c=n at *
    simp(disch:=omega)only[go_sem,simprocAttr,hH,hc,aD fM,QK.use hcl]
    exact hE _ rfl
theorem NF(hs:s.size≤16384)(hH:H[b]?=some (scB s p o))(hp:p<s.size):EvO Cx 354 [.ptr b 0] H (I64 ((p+1+p8 (s.data.toList.drop (p+1)):Nat):Int)) H:=by
 refine nK ?_
 rw[aP aR9 a2k]
 refine⟨by simp[GT],?_⟩
 have hU:=hH
 unfold scB at hU
 simp(disch:=omega)only[go_sem,simprocAttr,hU]
 rw[aB (l:=[0,3]) rfl]
 simp(disch:=omega)only[go_sem,simprocAttr]
 have:=ZN hs hH (k:=?k) (Q:=?Q) (s.data.toList.drop (p+1)) (p+1) rfl ?h
 simp only[Int.natCast_add,Int.cast_ofNat_Int]at this
 exact this
 intro e e3
 simp(disch:=omega)only[go_sem,simprocAttr,aE,e3]
 exact⟨_,rfl,rfl⟩
theorem E6(hs:s.size≤16384)(hH:H[b]?=some (scB s p o))(hp:p<s.size):EvO Cx 355 [.ptr b 0] H (I64 ((p+1+AR (s.data.toList.drop (p+1)):Nat):Int)) H:=by
 refine nK ?_
 rw[aP aZn a3a]
 refine⟨by simp[IB],?_⟩
 have hU:=hH
 unfold scB at hU
 simp(disch:=omega)only[go_sem,simprocAttr,hU]
 rw[aB (l:=[0,3]) rfl]
 simp(disch:=omega)only[go_sem,simprocAttr]
 have:=aAI hs hH (k:=?k) (Q:=?Q) (s.data.toList.drop (p+1)) (p+1) rfl ?h
 simp only[Int.natCast_add,Int.cast_ofNat_Int]at this
 exact this
 intro e e3
 simp(disch:=omega)only[go_sem,simprocAttr,aE,e3]
 exact⟨_,rfl,rfl⟩
end
def wZ:List UInt8→Nat
 |c::d::_=>if(c=61∨c=33)∧d=61 then 2 else 1
 |_=>1
section
variable{s:ByteArray}{p b:Nat}{o:Bool}{H:aG}{k:List It}{Q:Ex→Ev.St→Prop}
theorem aAD{c:UInt8}(n:Nat)(h:n<256):((c.toNat:Int)=n)↔c=UInt8.ofNat n:=by
 constructor
 ·intro e
  apply UInt8.toNat_inj.1
  rw[UInt8.toNat_ofNat']
  omega
 ·intro e
  rw[e,UInt8.toNat_ofNat']
  omega
theorem QA(hs:s.size≤16384)(hH:H[b]?=some (scB s p o))(hp:p<s.size):EvO Cx 353 [.ptr b 0] H (I64 ((p+wZ (s.data.toList.drop p):Nat):Int)) H:=by
 refine nK ?_
 rw[aP aUS aUp]
 refine⟨by simp[LG],?_⟩
 have hU:=hH
 unfold scB at hU
 have n1:((p:Int)+1).toNat=p+1:=by omega
 rcases gS s p with⟨hd,hz⟩|⟨c,l,hd,hz,hc,hl⟩
 ·omega
 ·rw[hd]
  have hc61:(c.toNat:Int)=61↔c=61:=aAD 61 (by decide)
  have hc33:(c.toNat:Int)=33↔c=33:=aAD 33 (by decide)
  rcases gS s (p+1)with⟨hd2,hz2⟩|⟨d,l2,hd2,hz2,hc2,-⟩
  ·rw[hl]at hd2
   subst hd2
   rw[show wZ [c]=1 from rfl]
   by_cases h1:(c.toNat:Int)=61
   ·simp(disch:=omega)only[go_sem,simprocAttr,hU,hc,aE]
    exact⟨_,rfl,rfl⟩
   ·by_cases h2:(c.toNat:Int)=33
    ·simp(disch:=omega)only[go_sem,simprocAttr,hU,hc,aE]
     exact⟨_,rfl,rfl⟩
    ·simp(disch:=omega)only[go_sem,simprocAttr,hU,hc,aE]
     exact⟨_,rfl,rfl⟩
  ·rw[hl]at hd2
   subst hd2
   rw[wZ]
   have hd61:(d.toNat:Int)=61↔d=61:=aAD 61 (by decide)
   by_cases h1:(c.toNat:Int)=61
   ·by_cases h3:(d.toNat:Int)=61
    ·rw[if_pos ⟨.inl (hc61.1 h1),hd61.1 h3⟩]
     simp(disch:=omega)only[go_sem,simprocAttr,hU,hc,hc2,n1,aE]
     exact⟨_,rfl,rfl⟩
    ·rw[if_neg (fun h=>h3 (hd61.2 h.2))]
     simp(disch:=omega)only[go_sem,simprocAttr,hU,hc,hc2,n1,aE]
     exact⟨_,rfl,rfl⟩
   ·by_cases h2:(c.toNat:Int)=33
    ·by_cases h3:(d.toNat:Int)=61
     ·rw[if_pos ⟨.inr (hc33.1 h2),hd61.1 h3⟩]
      simp(disch:=omega)only[go_sem,simprocAttr,hU,hc,hc2,n1,aE]
      exact⟨_,rfl,rfl⟩
     ·rw[if_neg (fun h=>h3 (hd61.2 h.2))]
      simp(disch:=omega)only[go_sem,simprocAttr,hU,hc,hc2,n1,aE]
      exact⟨_,rfl,rfl⟩
    ·rw[if_neg (fun h=>by rcases h.1 with h|h;exact h1 (hc61.2 h);exact h2 (hc33.2 h))]
     simp(disch:=omega)only[go_sem,simprocAttr,hU,hc,aE]
     exact⟨_,rfl,rfl⟩
noncomputable def xJ(c:UInt8):Int:=if gC c=3 then 1 else if gC c=4 then 2 else 3
noncomputable def K0:List UInt8→Nat
 |[]=>0
 |c::l=>if gC c=3 then 1+p8 l else if gC c=4 then 1+AR l else wZ (c::l)
theorem AH:∀ l,p8 l≤l.length
 |[]=>Nat.le_refl _
 |c::l=>by
  have:=AH l
  rw[p8]
  split<;>simp<;>omega
theorem DZ:∀ l,AR l≤l.length
 |[]=>Nat.le_refl _
 |c::l=>by
  have:=DZ l
  rw[AR]
  split<;>simp<;>omega
theorem LU(c:UInt8)(l:List UInt8):1≤wZ (c::l)∧wZ (c::l)≤l.length+1:=by
 cases l with
 |nil=>exact⟨Nat.le_refl _,Nat.le_refl _⟩
 |cons d l =>
  rw[wZ]
  split<;>simp
theorem aNG(c:UInt8)(l:List UInt8):1≤K0 (c::l)∧K0 (c::l)≤l.length+1:=by
 have h1:=AH l
 have h2:=DZ l
 have h3:=LU c l
 rw[K0]
 split
 ·omega
 ·split<;>omega
def aB6(k:Int)(t:ByteArray)(p:Nat):Option Blk:=some ⟨325,[I8 k,Sv t,I64 p],true⟩
theorem aDX(hs:s.size≤16384)(hH:H[b]?=some (scB s p o)){c:UInt8}{l:List UInt8}(hd:s.data.toList.drop p=c::l) :
  EvO Cx 341 [.ptr b 0] H (.agg [I8 (xJ c),Sv (s.extract p (p+K0 (c::l))),I64 p]) (H.set b (scB s (p+K0 (c::l)) o)++[aB6 (xJ c) (s.extract p (p+K0 (c::l))) p]):=by
 refine nK ?_
 rw[aP a3m aS8]
 refine⟨by simp[GH],?_⟩
 rcases gS s p with⟨hd',hz⟩|⟨c',l',hd',hz,hc,hl⟩
 ·rw[hd]at hd'
  cases hd'
 rw[hd]at hd'
 injection hd' with e1 e2
 subst e1
 subst e2
 have hlen:l.length+1+p=s.size:=by
  have:=congrArg List.length hd
  rw[List.length_drop,jJ,List.length_cons]at this
  omega
 have hcl:=gL c
 have hHl:∀ x:Option Blk,(H++[x])[b]?=some (scB s p o):=fun x=>by
  rw[List.getElem?_append_left (List.getElem?_eq_some_iff.1 hH).1]
  exact hH
 have hw:=fun x=>NF (H:=H++[x]) hs (hHl x) hz
 have hn:=fun x=>E6 (H:=H++[x]) hs (hHl x) hz
 have hg:=fun x=>QA (H:=H++[x]) hs (hHl x) hz
 rw[hl]at hw hn
 rw[hd]at hg
 have hU:=hHl
 unfold scB at hU
 have hbH:b<H.length:=(List.getElem?_eq_some_iff.1 hH).1
 have f1:∀ x y:Option Blk,(H++[x]).set b y=H.set b y++[x]:=fun x y=>List.set_append_left _ _ hbH
 have f2:∀(y:Option Blk) (l:aG),(H.set b y++l)[b]?=some y:=fun y l=>by
  rw[List.getElem?_append_left (by simpa using hbH)]
  exact bU hH y
 have f3:∀(x y:Option Blk),(H.set b y++[x])[H.length]?=some x:=fun x y=>by
  rw[List.getElem?_append_right (by simp)]
  simp
 have f4:∀(x y z:Option Blk),(H.set b y++[x]).set H.length z=H.set b y++[z]:=fun x y z=>by
  rw[List.set_append_right _ _ (by simp)]
  simp
 have k1:=AH l
 have k2:=DZ l
 have k3:=LU c l
 unfold xJ aB6 scB
 rw[K0]
 by_cases h3:gC c=3
 ·rw[if_pos h3,if_pos h3]
  rw[h3]at hcl
  have hz1:((p+1+p8 l:Nat):Int)=(p+(1+p8 l):Nat):=by rw[Nat.add_assoc]
  simp only[hz1]at hw
  generalize hq:p+(1+p8 l)=q at *
  have hqs:q≤s.size:=by omega
  simp(disch:=omega)only[go_sem,simprocAttr,hU,hc,aD fM,QK.use hcl,eT (hw _),f1,f2,f3,f4,aE]
  exact⟨_,rfl,rfl⟩
 ·rw[if_neg h3,if_neg h3]
  by_cases h4:gC c=4
  ·rw[if_pos h4,if_pos h4]
   rw[h4]at hcl
   have hz1:((p+1+AR l:Nat):Int)=(p+(1+AR l):Nat):=by rw[Nat.add_assoc]
   simp only[hz1]at hn
   generalize hq:p+(1+AR l)=q at *
   have hqs:q≤s.size:=by omega
   simp(disch:=omega)only[go_sem,simprocAttr,hU,hc,aD fM,QK.use hcl,eT (hn _),f1,f2,f3,f4,aE]
   exact⟨_,rfl,rfl⟩
  ·rw[if_neg h4,if_neg h4]
   generalize hq:p+wZ (c::l)=q at *
   have hqs:q≤s.size:=by omega
   generalize gC c=n at *
   simp(disch:=omega)only[go_sem,simprocAttr,hU,hc,aD fM,QK.use hcl,eT (hg _),f1,f2,f3,f4,aE]
   exact⟨_,rfl,rfl⟩
end
end Go.Proofs.YtpdphobnchajbaaGreatDoor.Ev
