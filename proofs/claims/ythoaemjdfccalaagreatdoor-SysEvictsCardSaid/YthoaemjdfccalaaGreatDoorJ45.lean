/- book.Make 3: what its text leaves open. -/
import Derived.Test.YthoaemjdfccalaaGreatDoorJ36
set_option linter.all false
namespace Go.Proofs.YthoaemjdfccalaaGreatDoor.Ev
open Go Go.RowKit
set_option maxRecDepth 1000000
theorem aPj:EvQ Cx 61 [.agg ((oF 3).map .v)] (Bo true):=CD (by kernel_rfl)
noncomputable def XR3:FuncId->List A->Option A:=orT 61 [([.agg ((oF 3).map .v)],Bo true)] fun _ _=>none
theorem aQ7:QOk Cx.T Tryz.prog XR3:=fun f zs r h=>by unfold XR3 orT at h;cases hb:Nat.beq f 61 with|false=>simp[hb]at h|true=>obtain rfl:=Nat.eq_of_beq_eq_true hb;simp only[hb,cond_true]at h;have hm:=mS h;rw[List.mem_singleton]at hm;obtain⟨rfl,rfl⟩:=Prod.mk.inj hm;obtain⟨N,hN⟩:=aPj;exact(dU sF N).1 _ _ _ hN
theorem aQB:EvQ (CA XR3) 103 [.agg ((oF 3).map .v)] (.sl (jD 3).length (kZ (jD 3))):=CD (by kernel_rfl)
theorem aUb:(QS 3).all (chk Cx 58)=true:=by kernel_rfl
theorem aVj:HH 3=true:=by kernel_rfl
