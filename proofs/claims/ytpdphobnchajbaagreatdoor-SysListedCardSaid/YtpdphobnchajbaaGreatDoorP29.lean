/- Views: a sharer noted. -/
import Derived.Test.YtpdphobnchajbaaGreatDoorP20
set_option linter.unusedSimpArgs false
set_option linter.unusedVariables false
namespace Go.Proofs.YtpdphobnchajbaaGreatDoor.Ev
open Go Go.RowKit
set_option maxRecDepth 100000
set_option maxHeartbeats 8000000
noncomputable def popI(m:Nat):Int:=(pop_ex m).choose
theorem pop_ev(m:Nat):EvQ Cx 357 [W64 m] (I64 (popI m)):=(pop_ex m).choose_spec
theorem recs_ev:EvQ Cx 338 [] (.mf [I8 1,.v (.func (.func 350) #[] #[]),I8 2,.v (.func (.func 351) #[] #[]),I8 3,.v (.func (.func 352) #[] #[])]):=evQ_fast 60 (by kernel_rfl)
noncomputable def noteF(k:Int)(m:Nat)(a:Bool)(c:Nat):Nat×Bool :=
 if(k=1∨k=2∨k=3)∧c<4 then
  (if k=1 then(m ||| 2 ^ c,a)else if k=3 then(m ||| 2 ^ (c/2),a)else if a=true∨m &&& 2 ^ c≠0 then(m,a)else if 2≤popI m then(0,true)else(m ||| 2 ^ c,a))
 else(m,a)
theorem sh0:IntKind.u64.wrap (1*2 ^ min 0 64)=1:=by decide
theorem sh1:IntKind.u64.wrap (1*2 ^ min 1 64)=2:=by decide
theorem sh2:IntKind.u64.wrap (1*2 ^ min 2 64)=4:=by decide
theorem sh3:IntKind.u64.wrap (1*2 ^ min 3 64)=8:=by decide
theorem full_ev{m:Nat}(hm:m<18446744073709551616)(k:Int)(a:Bool){c:Nat}(hc:c<4):EvQ Cx 350 [eV k m a,I8 c] (eV k (m ||| 2 ^ c) a):=by
 refine evQ_of CxB350 rfl (by simp[fn350]) ?_
 obtain rfl|rfl|rfl|rfl:c=0∨c=1∨c=2∨c=3:=by omega
 ·have h:=or64 (b:=1) hm (by decide)
  simp(disch:=omega)only[Int.cast_ofNat_Int,go_sem,simprocAttr]at h
  simp only[Int.cast_ofNat_Int]
  simp(disch:=omega)only[sh0,go_sem,simprocAttr,h]
  first|done|exact h|done
 ·have h:=or64 (b:=2) hm (by decide)
  simp(disch:=omega)only[Int.cast_ofNat_Int,go_sem,simprocAttr]at h
  simp only[Int.cast_ofNat_Int]
  simp(disch:=omega)only[sh1,go_sem,simprocAttr,h]
  first|done|exact h|done
 ·have h:=or64 (b:=4) hm (by decide)
  simp(disch:=omega)only[Int.cast_ofNat_Int,go_sem,simprocAttr]at h
  simp only[Int.cast_ofNat_Int]
  simp(disch:=omega)only[sh2,go_sem,simprocAttr,h]
  first|done|exact h|done
 ·have h:=or64 (b:=8) hm (by decide)
  simp(disch:=omega)only[Int.cast_ofNat_Int,go_sem,simprocAttr]at h
  simp only[Int.cast_ofNat_Int]
  simp(disch:=omega)only[sh3,go_sem,simprocAttr,h]
  first|done|exact h|done
theorem group_ev{m:Nat}(hm:m<18446744073709551616)(k:Int)(a:Bool){c:Nat}(hc:c<4):EvQ Cx 352 [eV k m a,I8 c] (eV k (m ||| 2 ^ (c/2)) a):=by
 refine evQ_of CxB352 rfl (by simp[fn352]) ?_
 obtain rfl|rfl|rfl|rfl:c=0∨c=1∨c=2∨c=3:=by omega
 ·have h:=or64 (b:=1) hm (by decide)
  simp(disch:=omega)only[Int.cast_ofNat_Int,go_sem,simprocAttr]at h
  simp only[Int.cast_ofNat_Int]
  simp(disch:=omega)only[sh0,go_sem,simprocAttr,h]
  first|done|exact h|done
 ·have h:=or64 (b:=1) hm (by decide)
  simp(disch:=omega)only[Int.cast_ofNat_Int,go_sem,simprocAttr]at h
  simp only[Int.cast_ofNat_Int]
  simp(disch:=omega)only[sh0,go_sem,simprocAttr,h]
  first|done|exact h|done
 ·have h:=or64 (b:=2) hm (by decide)
  simp(disch:=omega)only[Int.cast_ofNat_Int,go_sem,simprocAttr]at h
  simp only[Int.cast_ofNat_Int]
  simp(disch:=omega)only[sh1,go_sem,simprocAttr,h]
  first|done|exact h|done
 ·have h:=or64 (b:=2) hm (by decide)
  simp(disch:=omega)only[Int.cast_ofNat_Int,go_sem,simprocAttr]at h
  simp only[Int.cast_ofNat_Int]
  simp(disch:=omega)only[sh1,go_sem,simprocAttr,h]
  first|done|exact h|done
theorem two_ev{m:Nat}(hm:m<18446744073709551616)(k:Int)(a:Bool){c:Nat}(hc:c<4):EvQ Cx 351 [eV k m a,I8 c] (eV k (if a=true∨m &&& 2 ^ c≠0 then m else if 2≤popI m then 0 else m ||| 2 ^ c) (if a=true∨m &&& 2 ^ c≠0 then a else if 2≤popI m then true else a)):=by
 have hp:=pop_ev m
 refine evQ_of CxB351 rfl (by simp[fn351]) ?_
 obtain rfl|rfl|rfl|rfl:c=0∨c=1∨c=2∨c=3:=by omega
 ·have h:=or64 (b:=1) hm (by decide)
  have h':=and64 (b:=1) hm (by decide)
  simp(disch:=omega)only[Int.cast_ofNat_Int,go_sem,simprocAttr]at h h'
  rw[show 2 ^ 0=1 from rfl]
  simp only[Int.cast_ofNat_Int]
  cases a with
  |true=>simp(disch:=omega)only[sh0,go_sem,simprocAttr,true_or]
  |false =>
   by_cases z:m &&& 1=0
   ·rw[z]at h'
    by_cases p2:2≤popI m
    ·simp(disch:=omega)only[sh0,go_sem,simprocAttr,h',z,QK.use hp,p2,or_self,Bool.false_eq_true,ne_eq,not_true_eq_false,Int.natCast_zero]
     all_goals first|done|done
    ·simp(disch:=omega)only[sh0,go_sem,simprocAttr,h,h',z,QK.use hp,p2,or_self,Bool.false_eq_true,ne_eq,not_true_eq_false,Int.natCast_zero]
     all_goals first|done|exact h|done
   ·generalize m &&& 1=z' at *
    simp(disch:=omega)only[sh0,go_sem,simprocAttr,h',z,or_true,Bool.false_eq_true,ne_eq,not_false_eq_true]
    all_goals first|done|done
 ·have h:=or64 (b:=2) hm (by decide)
  have h':=and64 (b:=2) hm (by decide)
  simp(disch:=omega)only[Int.cast_ofNat_Int,go_sem,simprocAttr]at h h'
  rw[show 2 ^ 1=2 from rfl]
  simp only[Int.cast_ofNat_Int]
  cases a with
  |true=>simp(disch:=omega)only[sh1,go_sem,simprocAttr,true_or]
  |false =>
   by_cases z:m &&& 2=0
   ·rw[z]at h'
    by_cases p2:2≤popI m
    ·simp(disch:=omega)only[sh1,go_sem,simprocAttr,h',z,QK.use hp,p2,or_self,Bool.false_eq_true,ne_eq,not_true_eq_false,Int.natCast_zero]
     all_goals first|done|done
    ·simp(disch:=omega)only[sh1,go_sem,simprocAttr,h,h',z,QK.use hp,p2,or_self,Bool.false_eq_true,ne_eq,not_true_eq_false,Int.natCast_zero]
     all_goals first|done|exact h|done
   ·generalize m &&& 2=z' at *
    simp(disch:=omega)only[sh1,go_sem,simprocAttr,h',z,or_true,Bool.false_eq_true,ne_eq,not_false_eq_true]
    all_goals first|done|done
 ·have h:=or64 (b:=4) hm (by decide)
  have h':=and64 (b:=4) hm (by decide)
  simp(disch:=omega)only[Int.cast_ofNat_Int,go_sem,simprocAttr]at h h'
  rw[show 2 ^ 2=4 from rfl]
  simp only[Int.cast_ofNat_Int]
  cases a with
  |true=>simp(disch:=omega)only[sh2,go_sem,simprocAttr,true_or]
  |false =>
   by_cases z:m &&& 4=0
   ·rw[z]at h'
    by_cases p2:2≤popI m
    ·simp(disch:=omega)only[sh2,go_sem,simprocAttr,h',z,QK.use hp,p2,or_self,Bool.false_eq_true,ne_eq,not_true_eq_false,Int.natCast_zero]
     all_goals first|done|done
    ·simp(disch:=omega)only[sh2,go_sem,simprocAttr,h,h',z,QK.use hp,p2,or_self,Bool.false_eq_true,ne_eq,not_true_eq_false,Int.natCast_zero]
     all_goals first|done|exact h|done
   ·generalize m &&& 4=z' at *
    simp(disch:=omega)only[sh2,go_sem,simprocAttr,h',z,or_true,Bool.false_eq_true,ne_eq,not_false_eq_true]
    all_goals first|done|done
 ·have h:=or64 (b:=8) hm (by decide)
  have h':=and64 (b:=8) hm (by decide)
  simp(disch:=omega)only[Int.cast_ofNat_Int,go_sem,simprocAttr]at h h'
  rw[show 2 ^ 3=8 from rfl]
  simp only[Int.cast_ofNat_Int]
  cases a with
  |true=>simp(disch:=omega)only[sh3,go_sem,simprocAttr,true_or]
  |false =>
   by_cases z:m &&& 8=0
   ·rw[z]at h'
    by_cases p2:2≤popI m
    ·simp(disch:=omega)only[sh3,go_sem,simprocAttr,h',z,QK.use hp,p2,or_self,Bool.false_eq_true,ne_eq,not_true_eq_false,Int.natCast_zero]
     all_goals first|done|done
    ·simp(disch:=omega)only[sh3,go_sem,simprocAttr,h,h',z,QK.use hp,p2,or_self,Bool.false_eq_true,ne_eq,not_true_eq_false,Int.natCast_zero]
     all_goals first|done|exact h|done
   ·generalize m &&& 8=z' at *
    simp(disch:=omega)only[sh3,go_sem,simprocAttr,h',z,or_true,Bool.false_eq_true,ne_eq,not_false_eq_true]
    all_goals first|done|done
theorem note_ev{m:Nat}(hm:m<18446744073709551616)(k:Int)(a:Bool){c:Nat}(hc:c<256):EvQ Cx 307 [eV k m a,I8 c] (eV k (noteF k m a c).1 (noteF k m a c).2):=by
 have hr:=recs_ev
 refine evQ_of CxB307 rfl (by simp[fn307]) ?_
 unfold noteF
 by_cases hk:k=1∨k=2∨k=3
 case neg =>
  rw[if_neg (fun h=>hk h.1)]
  simp(disch:=omega)only[go_sem,simprocAttr,QK.use hr]
 by_cases h4:c<4
 case neg =>
  rw[if_neg (fun h=>h4 h.2)]
  rcases hk with rfl|rfl|rfl
  all_goals simp(disch:=omega)only[go_sem,simprocAttr,QK.use hr]
 rw[if_pos ⟨hk,h4⟩]
 rcases hk with rfl|rfl|rfl
 ·have h:=full_ev hm 1 a h4
  rw[if_pos rfl]
  generalize m ||| 2 ^ c=m' at h ⊢
  simp(disch:=omega)only[go_sem,simprocAttr,QK.use hr,QK.use h]
 ·have h:=two_ev hm 2 a h4
  rw[if_neg (by decide),if_neg (by decide)]
  have e:(if a=true∨m &&& 2 ^ c≠0 then(m,a)else if 2≤popI m then(0,true)else(m ||| 2 ^ c,a))=((if a=true∨m &&& 2 ^ c≠0 then m else if 2≤popI m then 0 else m ||| 2 ^ c),(if a=true∨m &&& 2 ^ c≠0 then a else if 2≤popI m then true else a)):=by
   split
   ·rfl
   ·split<;>rfl
  rw[e]
  generalize (if a=true∨m &&& 2 ^ c≠0 then m else if 2≤popI m then 0 else m ||| 2 ^ c)=m' at h ⊢
  generalize (if a=true∨m &&& 2 ^ c≠0 then a else if 2≤popI m then true else a)=a' at h ⊢
  simp(disch:=omega)only[go_sem,simprocAttr,QK.use hr,QK.use h]
 ·have h:=group_ev hm 3 a h4
  rw[if_neg (by decide),if_pos rfl]
  generalize m ||| 2 ^ (c/2)=m' at h ⊢
  simp(disch:=omega)only[go_sem,simprocAttr,QK.use hr,QK.use h]
theorem noteF_lt{k:Int}{m:Nat}{a:Bool}{c:Nat}(hm:m<18446744073709551616):(noteF k m a c).1<18446744073709551616:=by
 unfold noteF
 split
 ·rename_i h
  have h2:∀ x,x<4→2 ^ x<18446744073709551616:=fun x hx=>by
   obtain rfl|rfl|rfl|rfl:x=0∨x=1∨x=2∨x=3:=by omega
   all_goals decide
  split
  ·exact or_lt64 hm (h2 _ h.2)
  ·split
   ·exact or_lt64 hm (h2 _ (by omega))
   ·split
    ·exact hm
    ·split
     ·decide
     ·exact or_lt64 hm (h2 _ h.2)
 ·exact hm
theorem clear_ev(k:Int)(m:Nat)(a:Bool):EvQ Cx 306 [eV k m a] (eV k 0 false):=by
 refine evQ_of CxB306 rfl (by simp[fn306]) ?_
 simp(disch:=omega)only[go_sem,simprocAttr]
 first|done|done
end Go.Proofs.YtpdphobnchajbaaGreatDoor.Ev
