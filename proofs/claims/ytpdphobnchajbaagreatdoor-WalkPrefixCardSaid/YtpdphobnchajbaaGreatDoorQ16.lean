/- Replacement states: what is done when a way is filled or used. -/
import Derived.Test.YtpdphobnchajbaaGreatDoorQ15
set_option linter.unusedSimpArgs false
set_option linter.unusedVariables false
namespace Go.Proofs.YtpdphobnchajbaaGreatDoor.Ev
open Go Go.RowKit
set_option maxRecDepth 100000
theorem aMH:eF 335 1 1=true:=by kernel_rfl
theorem aNI:eF 335 1 2=true:=by kernel_rfl
theorem aIA:eF 335 1 3=true:=by kernel_rfl
theorem aJm:eF 335 1 4=true:=by kernel_rfl
theorem aLt:eF 335 2 1=true:=by kernel_rfl
theorem aHE:eF 335 2 2=true:=by kernel_rfl
theorem aIh:eF 335 2 3=true:=by kernel_rfl
theorem aJC:eF 335 2 4=true:=by kernel_rfl
theorem aFR:eF 335 3 1=true:=by kernel_rfl
theorem aID:eF 335 3 2=true:=by kernel_rfl
theorem aF8:eF 335 3 3=true:=by kernel_rfl
theorem aLC:eF 335 3 4=true:=by kernel_rfl
theorem aFo:eF 335 4 1=true:=by kernel_rfl
theorem aG9:eF 335 4 2=true:=by kernel_rfl
theorem aM8:eF 335 4 3=true:=by kernel_rfl
theorem aKT:eF 335 4 4=true:=by kernel_rfl
theorem aOB(k w:Nat)(hk:1≤k∧k≤4)(hw:1≤w∧w≤4):eF 335 k w=true:=by
 obtain rfl|rfl|rfl|rfl:k=1∨k=2∨k=3∨k=4:=by omega
 ·obtain rfl|rfl|rfl|rfl:w=1∨w=2∨w=3∨w=4:=by omega
  ·exact aMH
  ·exact aNI
  ·exact aIA
  ·exact aJm
 ·obtain rfl|rfl|rfl|rfl:w=1∨w=2∨w=3∨w=4:=by omega
  ·exact aLt
  ·exact aHE
  ·exact aIh
  ·exact aJC
 ·obtain rfl|rfl|rfl|rfl:w=1∨w=2∨w=3∨w=4:=by omega
  ·exact aFR
  ·exact aID
  ·exact aF8
  ·exact aLC
 ·obtain rfl|rfl|rfl|rfl:w=1∨w=2∨w=3∨w=4:=by omega
  ·exact aFo
  ·exact aG9
  ·exact aM8
  ·exact aKT
noncomputable def B2(r:Rp)(i:Int):Rp:=if r.good=true∧(0≤i∧i<r.ways)then(W6 335 r i).getD r else r
theorem aDl{r:Rp}(h:r.Ok)(i:Int):(B2 r i).Ok:=by
 unfold B2
 split
 ·rename_i q
  obtain⟨r',e,k,-⟩:=yB aOB h q.1 q.2.1 q.2.2
  rw[e]
  exact k
 ·exact h
theorem aNE{r:Rp}(h:r.Ok)(i:Int):EvQ Cx 335 [.agg (cR r),I64 i] (.agg (cR (B2 r i))):=by
 unfold B2
 by_cases q:r.good=true∧(0≤i∧i<r.ways)
 ·rw[if_pos q]
  obtain⟨r',e,-⟩:=yB aOB h q.1 q.2.1 q.2.2
  rw[e]
  exact QZ e
 ·rw[if_neg q]
  have hR:=QO r h
  refine aX aUK rfl (by simp[MD]) ?_
  cases hg:r.good
  ·rw[hg]at hR
   simp(disch:=omega)only[go_sem,simprocAttr,aD rT,QK.use hR]
  ·rw[hg]at hR
   have q2:¬ (0≤i∧i<r.ways):=fun x=>q ⟨hg,x⟩
   by_cases z:0≤i
   ·simp(disch:=omega)only[go_sem,simprocAttr,aD rT,QK.use hR]
   ·simp(disch:=omega)only[go_sem,simprocAttr,aD rT,QK.use hR]
theorem aAz:eF 336 1 1=true:=by kernel_rfl
theorem aAn:eF 336 1 2=true:=by kernel_rfl
theorem aC8:eF 336 1 3=true:=by kernel_rfl
theorem aDy:eF 336 1 4=true:=by kernel_rfl
theorem aEy:eF 336 2 1=true:=by kernel_rfl
theorem aBd:eF 336 2 2=true:=by kernel_rfl
theorem aEi:eF 336 2 3=true:=by kernel_rfl
theorem aCz:eF 336 2 4=true:=by kernel_rfl
theorem aE9:eF 336 3 1=true:=by kernel_rfl
theorem aDq:eF 336 3 2=true:=by kernel_rfl
theorem aCi:eF 336 3 3=true:=by kernel_rfl
theorem aEH:eF 336 3 4=true:=by kernel_rfl
theorem aBm:eF 336 4 1=true:=by kernel_rfl
theorem aFd:eF 336 4 2=true:=by kernel_rfl
theorem aCB:eF 336 4 3=true:=by kernel_rfl
theorem aCy:eF 336 4 4=true:=by kernel_rfl
theorem aAk(k w:Nat)(hk:1≤k∧k≤4)(hw:1≤w∧w≤4):eF 336 k w=true:=by
 obtain rfl|rfl|rfl|rfl:k=1∨k=2∨k=3∨k=4:=by omega
 ·obtain rfl|rfl|rfl|rfl:w=1∨w=2∨w=3∨w=4:=by omega
  ·exact aAz
  ·exact aAn
  ·exact aC8
  ·exact aDy
 ·obtain rfl|rfl|rfl|rfl:w=1∨w=2∨w=3∨w=4:=by omega
  ·exact aEy
  ·exact aBd
  ·exact aEi
  ·exact aCz
 ·obtain rfl|rfl|rfl|rfl:w=1∨w=2∨w=3∨w=4:=by omega
  ·exact aE9
  ·exact aDq
  ·exact aCi
  ·exact aEH
 ·obtain rfl|rfl|rfl|rfl:w=1∨w=2∨w=3∨w=4:=by omega
  ·exact aBm
  ·exact aFd
  ·exact aCB
  ·exact aCy
noncomputable def vY(r:Rp)(i:Int):Rp:=if r.good=true∧(0≤i∧i<r.ways)then(W6 336 r i).getD r else r
theorem YW{r:Rp}(h:r.Ok)(i:Int):(vY r i).Ok:=by
 unfold vY
 split
 ·rename_i q
  obtain⟨r',e,k,-⟩:=yB aAk h q.1 q.2.1 q.2.2
  rw[e]
  exact k
 ·exact h
theorem aBx{r:Rp}(h:r.Ok)(i:Int):EvQ Cx 336 [.agg (cR r),I64 i] (.agg (cR (vY r i))):=by
 unfold vY
 by_cases q:r.good=true∧(0≤i∧i<r.ways)
 ·rw[if_pos q]
  obtain⟨r',e,-⟩:=yB aAk h q.1 q.2.1 q.2.2
  rw[e]
  exact QZ e
 ·rw[if_neg q]
  have hR:=QO r h
  refine aX aQ1 rfl (by simp[JS]) ?_
  cases hg:r.good
  ·rw[hg]at hR
   simp(disch:=omega)only[go_sem,simprocAttr,aD rT,QK.use hR]
  ·rw[hg]at hR
   have q2:¬ (0≤i∧i<r.ways):=fun x=>q ⟨hg,x⟩
   by_cases z:0≤i
   ·simp(disch:=omega)only[go_sem,simprocAttr,aD rT,QK.use hR]
   ·simp(disch:=omega)only[go_sem,simprocAttr,aD rT,QK.use hR]
end Go.Proofs.YtpdphobnchajbaaGreatDoor.Ev
