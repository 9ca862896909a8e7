/- book.Make 2: what its text leaves open. -/
import Derived.Test.YthoaemjdfccalaaGreatDoorJ36
set_option linter.all false
namespace Go.Proofs.YthoaemjdfccalaaGreatDoor.Ev
open Go Go.RowKit
set_option maxRecDepth 1000000
theorem aOV:EvQ Cx 61 [.agg ((oF 2).map .v)] (Bo true):=CD (by kernel_rfl)
noncomputable def XR2:FuncId->List A->Option A:=orT 61 [([.agg ((oF 2).map .v)],Bo true)] fun _ _=>none
theorem aLR:QOk Cx.T Tryz.prog XR2:=fun f zs r h=>by unfold XR2 orT at h;cases hb:Nat.beq f 61 with|false=>simp[hb]at h|true=>obtain rfl:=Nat.eq_of_beq_eq_true hb;simp only[hb,cond_true]at h;have hm:=mS h;rw[List.mem_singleton]at hm;obtain⟨rfl,rfl⟩:=Prod.mk.inj hm;obtain⟨N,hN⟩:=aOV;exact(dU sF N).1 _ _ _ hN
theorem aNc:EvQ (CA XR2) 103 [.agg ((oF 2).map .v)] (.sl (jD 2).length (kZ (jD 2))):=CD (by kernel_rfl)
theorem aTw:(QS 2).all (chk Cx 58)=true:=by kernel_rfl
theorem aTa:HH 2=true:=by kernel_rfl
