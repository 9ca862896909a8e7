/- Replacement states: what is done when a way is filled or used. -/
import Derived.Test.YtpdphobnchajbaaGreatDoorP20
set_option linter.unusedSimpArgs false
set_option linter.unusedVariables false
namespace Go.Proofs.YtpdphobnchajbaaGreatDoor.Ev
open Go Go.RowKit
set_option maxRecDepth 100000
theorem tFill11:rpAll 335 1 1=true:=by kernel_rfl
theorem tFill12:rpAll 335 1 2=true:=by kernel_rfl
theorem tFill13:rpAll 335 1 3=true:=by kernel_rfl
theorem tFill14:rpAll 335 1 4=true:=by kernel_rfl
theorem tFill21:rpAll 335 2 1=true:=by kernel_rfl
theorem tFill22:rpAll 335 2 2=true:=by kernel_rfl
theorem tFill23:rpAll 335 2 3=true:=by kernel_rfl
theorem tFill24:rpAll 335 2 4=true:=by kernel_rfl
theorem tFill31:rpAll 335 3 1=true:=by kernel_rfl
theorem tFill32:rpAll 335 3 2=true:=by kernel_rfl
theorem tFill33:rpAll 335 3 3=true:=by kernel_rfl
theorem tFill34:rpAll 335 3 4=true:=by kernel_rfl
theorem tFill41:rpAll 335 4 1=true:=by kernel_rfl
theorem tFill42:rpAll 335 4 2=true:=by kernel_rfl
theorem tFill43:rpAll 335 4 3=true:=by kernel_rfl
theorem tFill44:rpAll 335 4 4=true:=by kernel_rfl
theorem tFill(k w:Nat)(hk:1≤k∧k≤4)(hw:1≤w∧w≤4):rpAll 335 k w=true:=by
 obtain rfl|rfl|rfl|rfl:k=1∨k=2∨k=3∨k=4:=by omega
 ·obtain rfl|rfl|rfl|rfl:w=1∨w=2∨w=3∨w=4:=by omega
  ·exact tFill11
  ·exact tFill12
  ·exact tFill13
  ·exact tFill14
 ·obtain rfl|rfl|rfl|rfl:w=1∨w=2∨w=3∨w=4:=by omega
  ·exact tFill21
  ·exact tFill22
  ·exact tFill23
  ·exact tFill24
 ·obtain rfl|rfl|rfl|rfl:w=1∨w=2∨w=3∨w=4:=by omega
  ·exact tFill31
  ·exact tFill32
  ·exact tFill33
  ·exact tFill34
 ·obtain rfl|rfl|rfl|rfl:w=1∨w=2∨w=3∨w=4:=by omega
  ·exact tFill41
  ·exact tFill42
  ·exact tFill43
  ·exact tFill44
noncomputable def fillR(r:Rp)(i:Int):Rp:=if r.good=true∧(0≤i∧i<r.ways)then(rpOf 335 r i).getD r else r
theorem fillR_ok{r:Rp}(h:r.Ok)(i:Int):(fillR r i).Ok:=by
 unfold fillR
 split
 ·rename_i q
  obtain⟨r',e,k,-⟩:=rp_step tFill h q.1 q.2.1 q.2.2
  rw[e]
  exact k
 ·exact h
theorem fill_ev{r:Rp}(h:r.Ok)(i:Int):EvQ Cx 335 [.agg (cR r),I64 i] (.agg (cR (fillR r i))):=by
 unfold fillR
 by_cases q:r.good=true∧(0≤i∧i<r.ways)
 ·rw[if_pos q]
  obtain⟨r',e,-⟩:=rp_step tFill h q.1 q.2.1 q.2.2
  rw[e]
  exact rpOf_ev e
 ·rw[if_neg q]
  have hR:=rright r h
  refine evQ_of CxB335 rfl (by simp[fn335]) ?_
  cases hg:r.good
  ·rw[hg]at hR
   simp(disch:=omega)only[go_sem,simprocAttr,passK_shut CxP287,QK.use hR]
  ·rw[hg]at hR
   have q2:¬ (0≤i∧i<r.ways):=fun x=>q ⟨hg,x⟩
   by_cases z:0≤i
   ·simp(disch:=omega)only[go_sem,simprocAttr,passK_shut CxP287,QK.use hR]
   ·simp(disch:=omega)only[go_sem,simprocAttr,passK_shut CxP287,QK.use hR]
theorem tTouch11:rpAll 336 1 1=true:=by kernel_rfl
theorem tTouch12:rpAll 336 1 2=true:=by kernel_rfl
theorem tTouch13:rpAll 336 1 3=true:=by kernel_rfl
theorem tTouch14:rpAll 336 1 4=true:=by kernel_rfl
theorem tTouch21:rpAll 336 2 1=true:=by kernel_rfl
theorem tTouch22:rpAll 336 2 2=true:=by kernel_rfl
theorem tTouch23:rpAll 336 2 3=true:=by kernel_rfl
theorem tTouch24:rpAll 336 2 4=true:=by kernel_rfl
theorem tTouch31:rpAll 336 3 1=true:=by kernel_rfl
theorem tTouch32:rpAll 336 3 2=true:=by kernel_rfl
theorem tTouch33:rpAll 336 3 3=true:=by kernel_rfl
theorem tTouch34:rpAll 336 3 4=true:=by kernel_rfl
theorem tTouch41:rpAll 336 4 1=true:=by kernel_rfl
theorem tTouch42:rpAll 336 4 2=true:=by kernel_rfl
theorem tTouch43:rpAll 336 4 3=true:=by kernel_rfl
theorem tTouch44:rpAll 336 4 4=true:=by kernel_rfl
theorem tTouch(k w:Nat)(hk:1≤k∧k≤4)(hw:1≤w∧w≤4):rpAll 336 k w=true:=by
 obtain rfl|rfl|rfl|rfl:k=1∨k=2∨k=3∨k=4:=by omega
 ·obtain rfl|rfl|rfl|rfl:w=1∨w=2∨w=3∨w=4:=by omega
  ·exact tTouch11
  ·exact tTouch12
  ·exact tTouch13
  ·exact tTouch14
 ·obtain rfl|rfl|rfl|rfl:w=1∨w=2∨w=3∨w=4:=by omega
  ·exact tTouch21
  ·exact tTouch22
  ·exact tTouch23
  ·exact tTouch24
 ·obtain rfl|rfl|rfl|rfl:w=1∨w=2∨w=3∨w=4:=by omega
  ·exact tTouch31
  ·exact tTouch32
  ·exact tTouch33
  ·exact tTouch34
 ·obtain rfl|rfl|rfl|rfl:w=1∨w=2∨w=3∨w=4:=by omega
  ·exact tTouch41
  ·exact tTouch42
  ·exact tTouch43
  ·exact tTouch44
noncomputable def touchR(r:Rp)(i:Int):Rp:=if r.good=true∧(0≤i∧i<r.ways)then(rpOf 336 r i).getD r else r
theorem touchR_ok{r:Rp}(h:r.Ok)(i:Int):(touchR r i).Ok:=by
 unfold touchR
 split
 ·rename_i q
  obtain⟨r',e,k,-⟩:=rp_step tTouch h q.1 q.2.1 q.2.2
  rw[e]
  exact k
 ·exact h
theorem touch_ev{r:Rp}(h:r.Ok)(i:Int):EvQ Cx 336 [.agg (cR r),I64 i] (.agg (cR (touchR r i))):=by
 unfold touchR
 by_cases q:r.good=true∧(0≤i∧i<r.ways)
 ·rw[if_pos q]
  obtain⟨r',e,-⟩:=rp_step tTouch h q.1 q.2.1 q.2.2
  rw[e]
  exact rpOf_ev e
 ·rw[if_neg q]
  have hR:=rright r h
  refine evQ_of CxB336 rfl (by simp[fn336]) ?_
  cases hg:r.good
  ·rw[hg]at hR
   simp(disch:=omega)only[go_sem,simprocAttr,passK_shut CxP287,QK.use hR]
  ·rw[hg]at hR
   have q2:¬ (0≤i∧i<r.ways):=fun x=>q ⟨hg,x⟩
   by_cases z:0≤i
   ·simp(disch:=omega)only[go_sem,simprocAttr,passK_shut CxP287,QK.use hR]
   ·simp(disch:=omega)only[go_sem,simprocAttr,passK_shut CxP287,QK.use hR]
end Go.Proofs.YtpdphobnchajbaaGreatDoor.Ev
