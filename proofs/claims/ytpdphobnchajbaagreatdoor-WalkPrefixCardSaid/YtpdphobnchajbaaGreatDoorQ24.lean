/- Views: a sharer noted. -/
import Derived.Test.YtpdphobnchajbaaGreatDoorQ15
set_option linter.unusedSimpArgs false
set_option linter.unusedVariables false
namespace Go.Proofs.YtpdphobnchajbaaGreatDoor.Ev
open Go Go.RowKit
set_option maxRecDepth 100000
set_option maxHeartbeats 8000000
noncomputable def uS(m:Nat):Int:=(aAr m).choose
theorem aRS(m:Nat):EvQ Cx 357 [W64 m] (I64 (uS m)):=(aAr m).choose_spec
theorem aGy:EvQ Cx 338 [] (.mf [I8 1,.v (.func (.func 350) #[] #[]),I8 2,.v (.func (.func 351) #[] #[]),I8 3,.v (.func (.func 352) #[] #[])]):=bI 60 (by kernel_rfl)
noncomputable def tO(k:Int)(m:Nat)(a:Bool)(c:Nat):Nat×Bool :=
 if(k=1∨k=2∨k=3)∧c<4 then
  (if k=1 then(m ||| 2 ^ c,a)else if k=3 then(m ||| 2 ^ (c/2),a)else if a=true∨m &&& 2 ^ c≠0 then(m,a)else if 2≤uS m then(0,true)else(m ||| 2 ^ c,a))
 else(m,a)
theorem sh0:IntKind.u64.wrap (1*2 ^ min 0 64)=1:=by decide
theorem sh1:IntKind.u64.wrap (1*2 ^ min 1 64)=2:=by decide
theorem sh2:IntKind.u64.wrap (1*2 ^ min 2 64)=4:=by decide
theorem sh3:IntKind.u64.wrap (1*2 ^ min 3 64)=8:=by decide
theorem aKS{m:Nat}(hm:m<18446744073709551616)(k:Int)(a:Bool){c:Nat}(hc:c<4):EvQ Cx 350 [eV k m a,I8 c] (eV k (m ||| 2 ^ c) a):=by
 refine aX aS5 rfl (by simp[HW]) ?_
 obtain rfl|rfl|rfl|rfl:c=0∨c=1∨c=2∨c=3:=by omega
 ·have h:=xG (b:=1) hm (by decide)
  simp(disch:=omega)only[Int.cast_ofNat_Int,go_sem,simprocAttr]at h
  simp only[Int.cast_ofNat_Int]
  simp(disch:=omega)only[sh0,go_sem,simprocAttr,h]
  first|done|exact h|done
 ·have h:=xG (b:=2) hm (by decide)
  simp(disch:=omega)only[Int.cast_ofNat_Int,go_sem,simprocAttr]at h
  simp only[Int.cast_ofNat_Int]
  simp(disch:=omega)only[sh1,go_sem,simprocAttr,h]
  first|done|exact h|done
 ·have h:=xG (b:=4) hm (by decide)
  simp(disch:=omega)only[Int.cast_ofNat_Int,go_sem,simprocAttr]at h
  simp only[Int.cast_ofNat_Int]
  simp(disch:=omega)only[sh2,go_sem,simprocAttr,h]
  first|done|exact h|done
 ·have h:=xG (b:=8) hm (by decide)
  simp(disch:=omega)only[Int.cast_ofNat_Int,go_sem,simprocAttr]at h
  simp only[Int.cast_ofNat_Int]
  simp(disch:=omega)only[sh3,go_sem,simprocAttr,h]
  first|done|exact h|done
theorem Z9{m:Nat}(hm:m<18446744073709551616)(k:Int)(a:Bool){c:Nat}(hc:c<4):EvQ Cx 352 [eV k m a,I8 c] (eV k (m ||| 2 ^ (c/2)) a):=by
 refine aX aSt rfl (by simp[JT]) ?_
 obtain rfl|rfl|rfl|rfl:c=0∨c=1∨c=2∨c=3:=by omega
 ·have h:=xG (b:=1) hm (by decide)
  simp(disch:=omega)only[Int.cast_ofNat_Int,go_sem,simprocAttr]at h
  simp only[Int.cast_ofNat_Int]
  simp(disch:=omega)only[sh0,go_sem,simprocAttr,h]
  first|done|exact h|done
 ·have h:=xG (b:=1) hm (by decide)
  simp(disch:=omega)only[Int.cast_ofNat_Int,go_sem,simprocAttr]at h
  simp only[Int.cast_ofNat_Int]
  simp(disch:=omega)only[sh0,go_sem,simprocAttr,h]
  first|done|exact h|done
 ·have h:=xG (b:=2) hm (by decide)
  simp(disch:=omega)only[Int.cast_ofNat_Int,go_sem,simprocAttr]at h
  simp only[Int.cast_ofNat_Int]
  simp(disch:=omega)only[sh1,go_sem,simprocAttr,h]
  first|done|exact h|done
 ·have h:=xG (b:=2) hm (by decide)
  simp(disch:=omega)only[Int.cast_ofNat_Int,go_sem,simprocAttr]at h
  simp only[Int.cast_ofNat_Int]
  simp(disch:=omega)only[sh1,go_sem,simprocAttr,h]
  first|done|exact h|done
theorem aSK{m:Nat}(hm:m<18446744073709551616)(k:Int)(a:Bool){c:Nat}(hc:c<4):EvQ Cx 351 [eV k m a,I8 c] (eV k (if a=true∨m &&& 2 ^ c≠0 then m else if 2≤uS m then 0 else m ||| 2 ^ c) (if a=true∨m &&& 2 ^ c≠0 then a else if 2≤uS m then true else a)):=by
 have hp:=aRS m
 refine aX aQ3 rfl (by simp[JF]) ?_
 obtain rfl|rfl|rfl|rfl:c=0∨c=1∨c=2∨c=3:=by omega
 ·have h:=xG (b:=1) hm (by decide)
  have h':=AQ (b:=1) hm (by decide)
  simp(disch:=omega)only[Int.cast_ofNat_Int,go_sem,simprocAttr]at h h'
  rw[show 2 ^ 0=1 from rfl]
  simp only[Int.cast_ofNat_Int]
  cases a with
  |true=>simp(disch:=omega)only[sh0,go_sem,simprocAttr,true_or]
  |false =>
   by_cases z:m &&& 1=0
   ·rw[z]at h'
    by_cases p2:2≤uS m
    ·simp(disch:=omega)only[sh0,go_sem,simprocAttr,h',z,QK.use hp,p2,or_self,Bool.false_eq_true,ne_eq,not_true_eq_false,Int.natCast_zero]
     all_goals first|done|done
    ·simp(disch:=omega)only[sh0,go_sem,simprocAttr,h,h',z,QK.use hp,p2,or_self,Bool.false_eq_true,ne_eq,not_true_eq_false,Int.natCast_zero]
     all_goals first|done|exact h|done
   ·generalize m &&& 1=z' at *
    simp(disch:=omega)only[sh0,go_sem,simprocAttr,h',z,or_true,Bool.false_eq_true,ne_eq,not_false_eq_true]
    all_goals first|done|done
 ·have h:=xG (b:=2) hm (by decide)
  have h':=AQ (b:=2) hm (by decide)
  simp(disch:=omega)only[Int.cast_ofNat_Int,go_sem,simprocAttr]at h h'
  rw[show 2 ^ 1=2 from rfl]
  simp only[Int.cast_ofNat_Int]
  cases a with
  |true=>simp(disch:=omega)only[sh1,go_sem,simprocAttr,true_or]
  |false =>
   by_cases z:m &&& 2=0
   ·rw[z]at h'
    by_cases p2:2≤uS m
    ·simp(disch:=omega)only[sh1,go_sem,simprocAttr,h',z,QK.use hp,p2,or_self,Bool.false_eq_true,ne_eq,not_true_eq_false,Int.natCast_zero]
     all_goals first|done|done
    ·simp(disch:=omega)only[sh1,go_sem,simprocAttr,h,h',z,QK.use hp,p2,or_self,Bool.false_eq_true,ne_eq,not_true_eq_false,Int.natCast_zero]
     all_goals first|done|exact h|done
   ·generalize m &&& 2=z' at *
    simp(disch:=omega)only[sh1,go_sem,simprocAttr,h',z,or_true,Bool.false_eq_true,ne_eq,not_false_eq_true]
    all_goals first|done|done
 ·have h:=xG (b:=4) hm (by decide)
  have h':=AQ (b:=4) hm (by decide)
  simp(disch:=omega)only[Int.cast_ofNat_Int,go_sem,simprocAttr]at h h'
  rw[show 2 ^ 2=4 from rfl]
  simp only[Int.cast_ofNat_Int]
  cases a with
  |true=>simp(disch:=omega)only[sh2,go_sem,simprocAttr,true_or]
  |false =>
   by_cases z:m &&& 4=0
   ·rw[z]at h'
    by_cases p2:2≤uS m
    ·simp(disch:=omega)only[sh2,go_sem,simprocAttr,h',z,QK.use hp,p2,or_self,Bool.false_eq_true,ne_eq,not_true_eq_false,Int.natCast_zero]
     all_goals first|done|done
    ·simp(disch:=omega)only[sh2,go_sem,simprocAttr,h,h',z,QK.use hp,p2,or_self,Bool.false_eq_true,ne_eq,not_true_eq_false,Int.natCast_zero]
     all_goals first|done|exact h|done
   ·generalize m &&& 4=z' at *
    simp(disch:=omega)only[sh2,go_sem,simprocAttr,h',z,or_true,Bool.false_eq_true,ne_eq,not_false_eq_true]
    all_goals first|done|done
 ·have h:=xG (b:=8) hm (by decide)
  have h':=AQ (b:=8) hm (by decide)
  simp(disch:=omega)only[Int.cast_ofNat_Int,go_sem,simprocAttr]at h h'
  rw[show 2 ^ 3=8 from rfl]
  simp only[Int.cast_ofNat_Int]
  cases a with
  |true=>simp(disch:=omega)only[sh3,go_sem,simprocAttr,true_or]
  |false =>
   by_cases z:m &&& 8=0
   ·rw[z]at h'
    by_cases p2:2≤uS m
    ·simp(disch:=omega)only[sh3,go_sem,simprocAttr,h',z,QK.use hp,p2,or_self,Bool.false_eq_true,ne_eq,not_true_eq_false,Int.natCast_zero]
     all_goals first|done|done
    ·simp(disch:=omega)only[sh3,go_sem,simprocAttr,h,h',z,QK.use hp,p2,or_self,Bool.false_eq_true,ne_eq,not_true_eq_false,Int.natCast_zero]
     all_goals first|done|exact h|done
   ·generalize m &&& 8=z' at *
    simp(disch:=omega)only[sh3,go_sem,simprocAttr,h',z,or_true,Bool.false_eq_true,ne_eq,not_false_eq_true]
    all_goals first|done|done
theorem TC{m:Nat}(hm:m<18446744073709551616)(k:Int)(a:Bool){c:Nat}(hc:c<256):EvQ Cx 307 [eV k m a,I8 c] (eV k (tO k m a c).1 (tO k m a c).2):=by
 have hr:=aGy
 refine aX aZs rfl (by simp[JB]) ?_
 unfold tO
 by_cases hk:k=1∨k=2∨k=3
 case neg =>
  rw[if_neg (fun h=>hk h.1)]
  simp(disch:=omega)only[go_sem,simprocAttr,QK.use hr]
 by_cases h4:c<4
 case neg =>
  rw[if_neg (fun h=>h4 h.2)]
  rcases hk with rfl|rfl|rfl
  all_goals simp(disch:=omega)only[go_sem,simprocAttr,QK.use hr]
 rw[if_pos ⟨hk,h4⟩]
 rcases hk with rfl|rfl|rfl
 ·have h:=aKS hm 1 a h4
  rw[if_pos rfl]
  generalize m ||| 2 ^ c=m' at h ⊢
  simp(disch:=omega)only[go_sem,simprocAttr,QK.use hr,QK.use h]
 ·have h:=aSK hm 2 a h4
  rw[if_neg (by decide),if_neg (by decide)]
  have e:(if a=true∨m &&& 2 ^ c≠0 then(m,a)else if 2≤uS m then(0,true)else(m ||| 2 ^ c,a))=((if a=true∨m &&& 2 ^ c≠0 then m else if 2≤uS m then 0 else m ||| 2 ^ c),(if a=true∨m &&& 2 ^ c≠0 then a else if 2≤uS m then true else a)):=by
   split
   ·rfl
   ·split<;>rfl
  rw[e]
  generalize (if a=true∨m &&& 2 ^ c≠0 then m else if 2≤uS m then 0 else m ||| 2 ^ c)=m' at h ⊢
  generalize (if a=true∨m &&& 2 ^ c≠0 then a else if 2≤uS m then true else a)=a' at h ⊢
  simp(disch:=omega)only[go_sem,simprocAttr,QK.use hr,QK.use h]
 ·have h:=Z9 hm 3 a h4
  rw[if_neg (by decide),if_pos rfl]
  generalize m ||| 2 ^ (c/2)=m' at h ⊢
  simp(disch:=omega)only[go_sem,simprocAttr,QK.use hr,QK.use h]
theorem GJ{k:Int}{m:Nat}{a:Bool}{c:Nat}(hm:m<18446744073709551616):(tO k m a c).1<18446744073709551616:=by
 unfold tO
 split
 ·rename_i h
  have h2:∀ x,x<4→2 ^ x<18446744073709551616:=fun x hx=>by
   obtain rfl|rfl|rfl|rfl:x=0∨x=1∨x=2∨x=3:=by omega
   all_goals decide
  split
  ·exact yC hm (h2 _ h.2)
  ·split
   ·exact yC hm (h2 _ (by omega))
   ·split
    ·exact hm
    ·split
     ·decide
     ·exact yC hm (h2 _ h.2)
 ·exact hm
theorem aAQ(k:Int)(m:Nat)(a:Bool):EvQ Cx 306 [eV k m a] (eV k 0 false):=by
 refine aX aZ8 rfl (by simp[IS]) ?_
 simp(disch:=omega)only[go_sem,simprocAttr]
 first|done|done
theorem aJ4{k:Int}{n:Nat}(n1:1≤n)(n4:n≤4):EvQ Cx 85 [I8 k,I64 n] (eV (if k=1∨k=2∨k=3 then k else 0) 0 false):=by
 have hK:=aAC k
 have hC:=SH n1 n4
 refine aX a39 rfl (by simp[aBo]) ?_
 by_cases h:k=1∨k=2∨k=3
 ·rw[if_pos h]
  rw[decide_eq_true h]at hK
  simp(disch:=omega)only[go_sem,simprocAttr,QK.use hK,QK.use hC]
  first|done|done
 ·rw[if_neg h]
  rw[decide_eq_false h]at hK
  simp(disch:=omega)only[go_sem,simprocAttr,QK.use hK]
  first|done|done
end Go.Proofs.YtpdphobnchajbaaGreatDoor.Ev
