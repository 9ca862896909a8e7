/- Lexing: what the next token may be. -/
import Derived.Test.YtpdphobnchajbaaGreatDoorQ09
import Derived.Test.YtpdphobnchajbaaGreatDoorQ11
set_option linter.unusedSimpArgs false
set_option linter.unusedVariables false
namespace Go.Proofs.YtpdphobnchajbaaGreatDoor.Ev
open Go Go.RowKit
set_option maxRecDepth 100000
theorem pY.refl(H:aG)(b:Nat):pY H H b:=⟨Nat.le_refl _,fun _ _ _=>rfl⟩
theorem pY.trans{H K L:aG}{b:Nat}(h:pY H K b)(h':pY K L b):pY H L b:=⟨Nat.le_trans h.1 h'.1,fun i hi hb=>(h'.2 i (Nat.lt_of_lt_of_le hi h.1) hb).trans (h.2 i hi hb)⟩
theorem pY.set{H K:aG}{b:Nat}(h:pY H K b){i:Nat}(hi:i=b∨H.length≤i)(x:Option Blk):pY H (K.set i x) b:=⟨by rw[List.length_set];exact h.1,fun j hj hb=>by
 rw[List.getElem?_set_ne (by omega)]
 exact h.2 j hj hb⟩
theorem pY.app{H K:aG}{b:Nat}(h:pY H K b)(l:aG):pY H (K++l) b:=⟨by rw[List.length_append];have:=h.1;omega,fun j hj hb=>by
 rw[List.getElem?_append_left (Nat.lt_of_lt_of_le hj h.1)]
 exact h.2 j hj hb⟩
def mu(s:ByteArray)(p:Nat)(o:Bool):Nat:=2*(s.size-p)+if o then 1 else 0
structure aSr(s:ByteArray)(y:List A)(ok:Bool)(M p:Nat)(o:Bool):Prop where
 le:p≤s.size
 less:ok=true→mu s p o<M
 tok:∃(k:Int) (t:ByteArray) (at':Nat),y=[I8 k,Sv t,I64 at']∧(ok=true→k=1∨k=2∨k=3∨k=4)∧t.size≤16384∧(k=3→0<t.size)∧at'≤16384
def a0Q:Option Blk:=some ⟨325,[I8 0,Sv ⟨#[]⟩,I64 0],true⟩
section
variable{s:ByteArray}{b r:Nat}
theorem OC(c:UInt8):xJ c=1∨xJ c=2∨xJ c=3∨xJ c=4:=by
 unfold xJ
 split
 ·omega
 ·split<;>omega
theorem XQ(hs:s.size≤16384)(hbr:b≠r){H0:aG}(hr0:r=H0.length){M:Nat}{KK:List It}{Q:Ex→Ev.St→Prop}
  (hE:∀(K:aG) (e:Env) (y:List A) (ok:Bool) (p':Nat) (o':Bool),cI e 2=some (.ptr r 0)→cI e 3=some (Bo ok)→aSr s y ok M p' o'→K[b]?=some (scB s p' o')→K[r]?=some (some ⟨325,y,true⟩)→pY H0 K b→dN Cx .back KK ⟨e,K⟩ Q) :
  ∀(n p:Nat) (o:Bool) (H:aG),s.size-p<n→p≤s.size→mu s p o≤M→H[b]?=some (scB s p o)→H[r]?=some a0Q→pY H0 H b →
   bG Cx (.code (.loop RY)::KK) ⟨[(0,.ptr b 0),(2,.ptr r 0)],H⟩ Q:=by
 intro n
 induction n with
 |zero =>
  intro p o H hn
  omega
 |succ n ih =>
  intro p o H hn hp hM hH hR hG
  rw[aA]
  simp(disch:=omega)only[go_sem,simprocAttr]
  refine IY (aKB hs hH) ?_
  have hle:=aDd (s.data.toList.drop p)
  rw[List.length_drop,jJ]at hle
  generalize hq:p+HY (s.data.toList.drop p)=q
  have hqs:p≤q∧q≤s.size:=by omega
  have hb1:(H.set b (scB s q o))[b]?=some (scB s q o):=bU hH _
  have hr1:=aO hR hbr (scB s q o)
  have hG1:=hG.set (.inl rfl) (scB s q o)
  generalize H.set b (scB s q o)=H1 at hb1 hr1 hG1 ⊢
  clear hle
  have hM1:mu s q o≤M:=by unfold mu at *;omega
  have hk:=fun {dst ms e k Q}=>DU (dst:=dst) (ms:=ms) (e:=e) (k:=k) (Q:=Q) hb1
  have hov:=fun {dst ms e k Q}=>aAv (dst:=dst) (ms:=ms) (e:=e) (k:=k) (Q:=Q) hb1
  have hov3:=fun l {dst ms e k Q}=>aAv (dst:=dst) (ms:=ms) (e:=e) (k:=k) (Q:=Q) (aI hb1 l)
  have hov2:=y7 s q o
  have hU:=hb1
  unfold scB at hU
  have hUr:=hr1
  unfold a0Q at hUr
  have hbH:b<H1.length:=(List.getElem?_eq_some_iff.1 hb1).1
  have hrH:r<H1.length:=(List.getElem?_eq_some_iff.1 hr1).1
  cases he:YC (s.data.toList.drop q)with
  |false =>
   simp only[he]at hk
   obtain⟨c,l,hd⟩:∃ c l,s.data.toList.drop q=c::l:=by
    cases hd:s.data.toList.drop q with
    |nil=>rw[hd]at he;cases he
    |cons c l=>exact⟨c,l,rfl⟩
   have hlen:l.length+1+q=s.size:=by
    have:=congrArg List.length hd
    rw[List.length_drop,jJ,List.length_cons]at this
    omega
   have hb2:(H1.set b (scB s q true))[b]?=some (scB s q true):=bU hb1 _
   have ht:=aDX hs hb2 hd
   have hw:=aNG c l
   rw[set_set]at ht
   simp(disch:=omega)only[go_sem,simprocAttr,hk,hU]
   unfold scB at ht
   refine IY ht ?_
   generalize hq2:q+K0 (c::l)=q2
   have hb3:=aI (bU hb1 (scB s q2 true)) [aB6 (xJ c) (s.extract q q2) q]
   have hr3:=aI (aO hr1 hbr (scB s q2 true)) [aB6 (xJ c) (s.extract q q2) q]
   have hG3:=(hG1.set (.inl rfl) (scB s q2 true)).app [aB6 (xJ c) (s.extract q q2) q]
   unfold scB at hb3 hr3 hG3
   generalize H1.set b _++_=H3 at hb3 hr3 hG3 ⊢
   unfold a0Q at hr3
   simp(disch:=omega)only[go_sem,simprocAttr,hr3]
   refine hE _ _ _ true q2 true rfl rfl ⟨by omega,fun _=>by unfold mu at *;split at hM1<;>simp<;>omega,xJ c,s.extract q q2,q,rfl,fun _=>OC c,by rw[ByteArray.size_extract];omega,fun _=>by rw[ByteArray.size_extract];omega,by omega⟩ (aO hb3 (Ne.symm hbr) _) (bU hr3 _) (hG3.set (.inr (by omega)) _)
  |true =>
   simp only[he]at hk
   have hsa:∀(x:Option Blk) (l:aG),(H1.set b x++l)[b]?=some x:=fun x l=>aI (bU hb1 x) l
   have hra:∀(x:Option Blk) (l:aG),(H1.set b x++l)[r]?=some (some ⟨325,[I8 0,Sv ⟨#[]⟩,I64 0],true⟩):=fun x l=>aI (aO hr1 hbr x) l
   have hsr:∀(x y:Option Blk) (l:aG),(H1.set b x++l).set r y=(H1.set b x).set r y++l:=fun x y l=>List.set_append_left _ _ (by rw[List.length_set];exact hrH)
   have hsb:∀(x y:Option Blk) (l:aG),(H1.set b x++l).set b y=H1.set b y++l:=fun x y l=>by
    rw[List.set_append_left _ _ (by rw[List.length_set];exact hbH),set_set]
   have fin:∀(o':Bool) (p':Nat) (y:List A) (l:aG),((H1.set b (scB s p' o')).set r (some ⟨325,y,true⟩)++l)[b]?=some (scB s p' o')∧((H1.set b (scB s p' o')).set r (some ⟨325,y,true⟩)++l)[r]?=some (some ⟨325,y,true⟩)∧pY H0 ((H1.set b (scB s p' o')).set r (some ⟨325,y,true⟩)++l) b:=fun o' p' y l =>
    ⟨aI (aO (bU hb1 _) (Ne.symm hbr) _) l,aI (bU (aO hr1 hbr _) _) l,((hG1.set (.inl rfl) _).set (.inr (by omega)) _).app l⟩
   unfold scB at fin
   have n1:(q:Int)+1=((q+1:Nat):Int):=by omega
   cases hd:decide (s.size≤q)with
   |true =>
    have hz:=of_decide_eq_true hd
    have hqz:q=s.size:=by omega
    rw[hd]at hov2
    simp only[hd]at hov hov3
    cases o
    ·simp(disch:=omega)only[go_sem,simprocAttr,hk,hU,aI hU,hov3,hsa,hra,hsr]
     obtain⟨f1,f2,f3⟩:=fin false s.size [I8 0,Sv ⟨#[]⟩,I64 0] [some ⟨325,[I8 4,Sv ⟨#[]⟩,I64 q],true⟩]
     exact hE _ _ _ false s.size false rfl rfl ⟨Nat.le_refl _,fun h=>(by cases h),0,_,0,rfl,fun h=>(by cases h),by decide,by decide,by decide⟩ f1 f2 f3
    ·simp(disch:=omega)only[go_sem,simprocAttr,hk,hU,aI hU,hov3,hsa,hra,hsr,hsb]
     obtain⟨f1,f2,f3⟩:=fin false s.size [I8 4,Sv ⟨#[]⟩,I64 q] [some ⟨325,[I8 4,Sv ⟨#[]⟩,I64 q],true⟩]
     exact hE _ _ _ true s.size false rfl rfl ⟨Nat.le_refl _,fun _=>by unfold mu at *;simp at *;omega,4,_,q,rfl,fun _=>by omega,by decide,by decide,by omega⟩ f1 f2 f3
   |false =>
    have hz:=of_decide_eq_false hd
    rw[hd]at hov2
    simp only[hd]at hov hov3
    cases o
    ·simp(disch:=omega)only[go_sem,simprocAttr,hk,hU,aI hU,hov3,hsa]
     rw[aB (l:=[0,2]) rfl]
     simp(disch:=omega)only[go_sem,simprocAttr]
     refine ih (q+1) false _ (by omega) (by omega) (by unfold mu at *;omega) (hsa _ _) (hra _ _) ((hG1.set (.inl rfl) _).app _)
    ·simp(disch:=omega)only[go_sem,simprocAttr,hk,hU,aI hU,hov3,hsa,hra,hsr,hsb]
     obtain⟨f1,f2,f3⟩:=fin false (q+1) [I8 4,Sv ⟨#[]⟩,I64 q] [some ⟨325,[I8 4,Sv ⟨#[]⟩,I64 q],true⟩]
     exact hE _ _ _ true (q+1) false rfl rfl ⟨by omega,fun _=>by unfold mu at *;simp at *;omega,4,_,q,rfl,fun _=>by omega,by decide,by decide,by omega⟩ f1 f2 f3
theorem S6(hs:s.size≤16384){p:Nat}{o:Bool}(hp:p≤s.size){H:aG}(hH:H[b]?=some (scB s p o)) :
  bW Cx 309 [.ptr b 0] H fun y K=>∃ t ok p' o',y=.tup [.agg t,Bo ok]∧aSr s t ok (mu s p o) p' o'∧K[b]?=some (scB s p' o')∧pY H K b:=by
 rw[aP aPf aYt];refine⟨by simp[L4],?_⟩
 have hb:b<H.length:=(List.getElem?_eq_some_iff.1 hH).1
 simp(disch:=omega)only[go_sem,simprocAttr]
 rw[aB (l:=[0,2]) rfl]
 simp(disch:=omega)only[go_sem,simprocAttr]
 refine XQ hs (r:=H.length) (by omega) rfl (M:=mu s p o) ?_ (s.size-p+1) p o _ (by omega) hp (Nat.le_refl _) (aI hH _) (e9 H _ []) ((pY.refl H b).app _)
 intro K e y ok p' o' h2 h3 hT hb' hr' hG
 obtain⟨k,t,a,rfl,-⟩:=hT.tok
 simp(disch:=omega)only[go_sem,simprocAttr,aE,h2,h3,hr']
 exact⟨_,ok,p',o',rfl,hT,hb',hG⟩
end
end Go.Proofs.YtpdphobnchajbaaGreatDoor.Ev
