/- Lexing: where a word, a number, a sign ends. -/
import Derived.Test.YtpdphobnchajbaaGreatDoorP07
set_option linter.unusedSimpArgs false
set_option linter.unusedVariables false
namespace Go.Proofs.YtpdphobnchajbaaGreatDoor.Ev
open Go Go.RowKit
set_option maxRecDepth 100000
noncomputable def inwK(n:Nat):Bool:=match(callsF Cx 60).1 252 [I8 n]with
 |some (.v (.bool c))=>c
 |_=>false
noncomputable def inwOk(n:Nat):Bool:=match(callsF Cx 60).1 252 [I8 n]with
 |some (.v (.bool _))=>true
 |_=>false
theorem inw_all:(List.range 256).all inwOk=true:=by kernel_rfl
noncomputable def inwB(b:UInt8):Bool:=inwK b.toNat
theorem inwB_ev(b:UInt8):EvQ Cx 252 [I8 b.toNat] (Bo (inwB b)):=by
 have hm:=List.all_eq_true.1 inw_all b.toNat (List.mem_range.2 b.toNat_lt)
 unfold inwOk at hm
 unfold inwB inwK
 split at hm
 ·rename_i c h
  exact evQ_fast 60 h
 ·cases hm
noncomputable def wordN:List UInt8→Nat
 |[]=>0
 |c::l=>if inwB c=true then wordN l+1 else 0
noncomputable def numN:List UInt8→Nat
 |[]=>0
 |c::l=>if clsB c=4 then numN l+1 else 0
section
variable{s:ByteArray}{p b:Nat}{o:Bool}{H:Heap}{k:List It}{Q:Ex→Ev.St→Prop}
theorem word_loop(hs:s.size≤16384)(hH:H[b]?=some (scB s p o)):∀(l:List UInt8) (q:Nat),s.data.toList.drop q=l →
  (∀ e:Env,look e 3=some (I64 ((q+wordN l:Nat):Int))→UnwK Cx (.out 0) k ⟨e,H⟩ Q) →
  RunK Cx (.code (.loop m354_l0)::k) ⟨[(0,.ptr b 0),(3,I64 q)],H⟩ Q:=by
 unfold scB at hH
 intro l
 induction l with
 |nil =>
  intro q hd hE
  have hz:s.size≤q:=by
   have:=congrArg List.length hd
   rw[List.length_drop,size_data]at this
   simp at this
   omega
  rw[wordN,Nat.add_zero]at hE
  rw[runK_loop]
  simp(disch:=omega)only[go_sem,simprocAttr,hH]
  exact hE _ rfl
 |cons c l ih =>
  intro q hd hE
  rcases drop_cases s q with⟨hd',-⟩|⟨c',l',hd',hz,hc,hl⟩
  ·rw[hd]at hd'
   cases hd'
  ·rw[hd]at hd'
   injection hd' with h1 h2
   subst h1
   subst h2
   have hcl:=inwB_ev c
   rw[wordN]at hE
   rw[runK_loop]
   cases hw:inwB c with
   |true =>
    rw[if_pos hw]at hE
    rw[hw]at hcl
    have hst:=ih (q+1) hl (fun e h=>hE e (by rw[h,Nat.add_assoc,Nat.add_comm 1]))
    simp only[Int.natCast_add,Int.cast_ofNat_Int]at hst
    simp(disch:=omega)only[go_sem,simprocAttr,hH,hc,passK_shut CxP252,QK.use hcl]
    rw[loop_norm (l:=[0,3]) rfl]
    simp(disch:=omega)only[go_sem,simprocAttr]
    exact hst
   |false =>
    rw[if_neg (by rw[hw];simp),Nat.add_zero]at hE
    rw[hw]at hcl
    simp(disch:=omega)only[go_sem,simprocAttr,hH,hc,passK_shut CxP252,QK.use hcl]
    exact hE _ rfl
theorem num_loop(hs:s.size≤16384)(hH:H[b]?=some (scB s p o)):∀(l:List UInt8) (q:Nat),s.data.toList.drop q=l →
  (∀ e:Env,look e 3=some (I64 ((q+numN l:Nat):Int))→UnwK Cx (.out 0) k ⟨e,H⟩ Q) →
  RunK Cx (.code (.loop m355_l0)::k) ⟨[(0,.ptr b 0),(3,I64 q)],H⟩ Q:=by
 unfold scB at hH
 intro l
 induction l with
 |nil =>
  intro q hd hE
  have hz:s.size≤q:=by
   have:=congrArg List.length hd
   rw[List.length_drop,size_data]at this
   simp at this
   omega
  rw[numN,Nat.add_zero]at hE
  rw[runK_loop]
  simp(disch:=omega)only[go_sem,simprocAttr,hH]
  exact hE _ rfl
 |cons c l ih =>
  intro q hd hE
  rcases drop_cases s q with⟨hd',-⟩|⟨c',l',hd',hz,hc,hl⟩
  ·rw[hd]at hd'
   cases hd'
  ·rw[hd]at hd'
   injection hd' with h1 h2
   subst h1
   subst h2
   have hcl:=clsB_ev c
   rw[numN]at hE
   rw[runK_loop]
   by_cases hw:clsB c=4
   ·rw[if_pos hw]at hE
    rw[hw]at hcl
    have hst:=ih (q+1) hl (fun e h=>hE e (by rw[h,Nat.add_assoc,Nat.add_comm 1]))
    simp only[Int.natCast_add,Int.cast_ofNat_Int]at hst
    simp(disch:=omega)only[go_sem,simprocAttr,hH,hc,passK_shut CxP250,QK.use hcl]
    rw[loop_norm (l:=[0,3]) rfl]
    simp(disch:=omega)only[go_sem,simprocAttr]
    exact hst
   ·rw[if_neg hw,Nat.add_zero]at hE
    generalize clsB c=n at *
    simp(disch:=omega)only[go_sem,simprocAttr,hH,hc,passK_shut CxP250,QK.use hcl]
    exact hE _ rfl
theorem wordEnd_ev(hs:s.size≤16384)(hH:H[b]?=some (scB s p o))(hp:p<s.size):EvO Cx 354 [.ptr b 0] H (I64 ((p+1+wordN (s.data.toList.drop (p+1)):Nat):Int)) H:=by
 refine callK_evO ?_
 rw[callK_in CxB354 CxP354]
 refine⟨by simp[fn354],?_⟩
 have hU:=hH
 unfold scB at hU
 simp(disch:=omega)only[go_sem,simprocAttr,hU]
 rw[loop_norm (l:=[0,3]) rfl]
 simp(disch:=omega)only[go_sem,simprocAttr]
 have:=word_loop hs hH (k:=?k) (Q:=?Q) (s.data.toList.drop (p+1)) (p+1) rfl ?h
 simp only[Int.natCast_add,Int.cast_ofNat_Int]at this
 exact this
 intro e e3
 simp(disch:=omega)only[go_sem,simprocAttr,endK_back,e3]
 exact⟨_,rfl,rfl⟩
theorem numberEnd_ev(hs:s.size≤16384)(hH:H[b]?=some (scB s p o))(hp:p<s.size):EvO Cx 355 [.ptr b 0] H (I64 ((p+1+numN (s.data.toList.drop (p+1)):Nat):Int)) H:=by
 refine callK_evO ?_
 rw[callK_in CxB355 CxP355]
 refine⟨by simp[fn355],?_⟩
 have hU:=hH
 unfold scB at hU
 simp(disch:=omega)only[go_sem,simprocAttr,hU]
 rw[loop_norm (l:=[0,3]) rfl]
 simp(disch:=omega)only[go_sem,simprocAttr]
 have:=num_loop hs hH (k:=?k) (Q:=?Q) (s.data.toList.drop (p+1)) (p+1) rfl ?h
 simp only[Int.natCast_add,Int.cast_ofNat_Int]at this
 exact this
 intro e e3
 simp(disch:=omega)only[go_sem,simprocAttr,endK_back,e3]
 exact⟨_,rfl,rfl⟩
end
def signN:List UInt8→Nat
 |c::d::_=>if(c=61∨c=33)∧d=61 then 2 else 1
 |_=>1
section
variable{s:ByteArray}{p b:Nat}{o:Bool}{H:Heap}{k:List It}{Q:Ex→Ev.St→Prop}
theorem u8_eq{c:UInt8}(n:Nat)(h:n<256):((c.toNat:Int)=n)↔c=UInt8.ofNat n:=by
 constructor
 ·intro e
  apply UInt8.toNat_inj.1
  rw[UInt8.toNat_ofNat']
  omega
 ·intro e
  rw[e,UInt8.toNat_ofNat']
  omega
theorem signEnd_ev(hs:s.size≤16384)(hH:H[b]?=some (scB s p o))(hp:p<s.size):EvO Cx 353 [.ptr b 0] H (I64 ((p+signN (s.data.toList.drop p):Nat):Int)) H:=by
 refine callK_evO ?_
 rw[callK_in CxB353 CxP353]
 refine⟨by simp[fn353],?_⟩
 have hU:=hH
 unfold scB at hU
 have n1:((p:Int)+1).toNat=p+1:=by omega
 rcases drop_cases s p with⟨hd,hz⟩|⟨c,l,hd,hz,hc,hl⟩
 ·omega
 ·rw[hd]
  have hc61:(c.toNat:Int)=61↔c=61:=u8_eq 61 (by decide)
  have hc33:(c.toNat:Int)=33↔c=33:=u8_eq 33 (by decide)
  rcases drop_cases s (p+1)with⟨hd2,hz2⟩|⟨d,l2,hd2,hz2,hc2,-⟩
  ·rw[hl]at hd2
   subst hd2
   rw[show signN [c]=1 from rfl]
   by_cases h1:(c.toNat:Int)=61
   ·simp(disch:=omega)only[go_sem,simprocAttr,hU,hc,endK_back]
    exact⟨_,rfl,rfl⟩
   ·by_cases h2:(c.toNat:Int)=33
    ·simp(disch:=omega)only[go_sem,simprocAttr,hU,hc,endK_back]
     exact⟨_,rfl,rfl⟩
    ·simp(disch:=omega)only[go_sem,simprocAttr,hU,hc,endK_back]
     exact⟨_,rfl,rfl⟩
  ·rw[hl]at hd2
   subst hd2
   rw[signN]
   have hd61:(d.toNat:Int)=61↔d=61:=u8_eq 61 (by decide)
   by_cases h1:(c.toNat:Int)=61
   ·by_cases h3:(d.toNat:Int)=61
    ·rw[if_pos ⟨.inl (hc61.1 h1),hd61.1 h3⟩]
     simp(disch:=omega)only[go_sem,simprocAttr,hU,hc,hc2,n1,endK_back]
     exact⟨_,rfl,rfl⟩
    ·rw[if_neg (fun h=>h3 (hd61.2 h.2))]
     simp(disch:=omega)only[go_sem,simprocAttr,hU,hc,hc2,n1,endK_back]
     exact⟨_,rfl,rfl⟩
   ·by_cases h2:(c.toNat:Int)=33
    ·by_cases h3:(d.toNat:Int)=61
     ·rw[if_pos ⟨.inr (hc33.1 h2),hd61.1 h3⟩]
      simp(disch:=omega)only[go_sem,simprocAttr,hU,hc,hc2,n1,endK_back]
      exact⟨_,rfl,rfl⟩
     ·rw[if_neg (fun h=>h3 (hd61.2 h.2))]
      simp(disch:=omega)only[go_sem,simprocAttr,hU,hc,hc2,n1,endK_back]
      exact⟨_,rfl,rfl⟩
    ·rw[if_neg (fun h=>by rcases h.1 with h|h;exact h1 (hc61.2 h);exact h2 (hc33.2 h))]
     simp(disch:=omega)only[go_sem,simprocAttr,hU,hc,endK_back]
     exact⟨_,rfl,rfl⟩
noncomputable def tokK(c:UInt8):Int:=if clsB c=3 then 1 else if clsB c=4 then 2 else 3
noncomputable def tokN:List UInt8→Nat
 |[]=>0
 |c::l=>if clsB c=3 then 1+wordN l else if clsB c=4 then 1+numN l else signN (c::l)
theorem wordN_le:∀ l,wordN l≤l.length
 |[]=>Nat.le_refl _
 |c::l=>by
  have:=wordN_le l
  rw[wordN]
  split<;>simp<;>omega
theorem numN_le:∀ l,numN l≤l.length
 |[]=>Nat.le_refl _
 |c::l=>by
  have:=numN_le l
  rw[numN]
  split<;>simp<;>omega
theorem signN_le(c:UInt8)(l:List UInt8):1≤signN (c::l)∧signN (c::l)≤l.length+1:=by
 cases l with
 |nil=>exact⟨Nat.le_refl _,Nat.le_refl _⟩
 |cons d l =>
  rw[signN]
  split<;>simp
theorem tokN_le(c:UInt8)(l:List UInt8):1≤tokN (c::l)∧tokN (c::l)≤l.length+1:=by
 have h1:=wordN_le l
 have h2:=numN_le l
 have h3:=signN_le c l
 rw[tokN]
 split
 ·omega
 ·split<;>omega
def tokB(k:Int)(t:ByteArray)(p:Nat):Option Blk:=some ⟨325,[I8 k,Sv t,I64 p],true⟩
theorem token_ev(hs:s.size≤16384)(hH:H[b]?=some (scB s p o)){c:UInt8}{l:List UInt8}(hd:s.data.toList.drop p=c::l) :
  EvO Cx 341 [.ptr b 0] H (.agg [I8 (tokK c),Sv (s.extract p (p+tokN (c::l))),I64 p]) (H.set b (scB s (p+tokN (c::l)) o)++[tokB (tokK c) (s.extract p (p+tokN (c::l))) p]):=by
 refine callK_evO ?_
 rw[callK_in CxB341 CxP341]
 refine⟨by simp[fn341],?_⟩
 rcases drop_cases s p with⟨hd',hz⟩|⟨c',l',hd',hz,hc,hl⟩
 ·rw[hd]at hd'
  cases hd'
 rw[hd]at hd'
 injection hd' with e1 e2
 subst e1
 subst e2
 have hlen:l.length+1+p=s.size:=by
  have:=congrArg List.length hd
  rw[List.length_drop,size_data,List.length_cons]at this
  omega
 have hcl:=clsB_ev c
 have hHl:∀ x:Option Blk,(H++[x])[b]?=some (scB s p o):=fun x=>by
  rw[List.getElem?_append_left (List.getElem?_eq_some_iff.1 hH).1]
  exact hH
 have hw:=fun x=>wordEnd_ev (H:=H++[x]) hs (hHl x) hz
 have hn:=fun x=>numberEnd_ev (H:=H++[x]) hs (hHl x) hz
 have hg:=fun x=>signEnd_ev (H:=H++[x]) hs (hHl x) hz
 rw[hl]at hw hn
 rw[hd]at hg
 have hU:=hHl
 unfold scB at hU
 have hbH:b<H.length:=(List.getElem?_eq_some_iff.1 hH).1
 have f1:∀ x y:Option Blk,(H++[x]).set b y=H.set b y++[x]:=fun x y=>List.set_append_left _ _ hbH
 have f2:∀(y:Option Blk) (l:Heap),(H.set b y++l)[b]?=some y:=fun y l=>by
  rw[List.getElem?_append_left (by simpa using hbH)]
  exact set_at hH y
 have f3:∀(x y:Option Blk),(H.set b y++[x])[H.length]?=some x:=fun x y=>by
  rw[List.getElem?_append_right (by simp)]
  simp
 have f4:∀(x y z:Option Blk),(H.set b y++[x]).set H.length z=H.set b y++[z]:=fun x y z=>by
  rw[List.set_append_right _ _ (by simp)]
  simp
 have k1:=wordN_le l
 have k2:=numN_le l
 have k3:=signN_le c l
 unfold tokK tokB scB
 rw[tokN]
 by_cases h3:clsB c=3
 ·rw[if_pos h3,if_pos h3]
  rw[h3]at hcl
  have hz1:((p+1+wordN l:Nat):Int)=(p+(1+wordN l):Nat):=by rw[Nat.add_assoc]
  simp only[hz1]at hw
  generalize hq:p+(1+wordN l)=q at *
  have hqs:q≤s.size:=by omega
  simp(disch:=omega)only[go_sem,simprocAttr,hU,hc,passK_shut CxP250,QK.use hcl,passK_evO (hw _),f1,f2,f3,f4,endK_back]
  exact⟨_,rfl,rfl⟩
 ·rw[if_neg h3,if_neg h3]
  by_cases h4:clsB c=4
  ·rw[if_pos h4,if_pos h4]
   rw[h4]at hcl
   have hz1:((p+1+numN l:Nat):Int)=(p+(1+numN l):Nat):=by rw[Nat.add_assoc]
   simp only[hz1]at hn
   generalize hq:p+(1+numN l)=q at *
   have hqs:q≤s.size:=by omega
   simp(disch:=omega)only[go_sem,simprocAttr,hU,hc,passK_shut CxP250,QK.use hcl,passK_evO (hn _),f1,f2,f3,f4,endK_back]
   exact⟨_,rfl,rfl⟩
  ·rw[if_neg h4,if_neg h4]
   generalize hq:p+signN (c::l)=q at *
   have hqs:q≤s.size:=by omega
   generalize clsB c=n at *
   simp(disch:=omega)only[go_sem,simprocAttr,hU,hc,passK_shut CxP250,QK.use hcl,passK_evO (hg _),f1,f2,f3,f4,endK_back]
   exact⟨_,rfl,rfl⟩
end
end Go.Proofs.YtpdphobnchajbaaGreatDoor.Ev
