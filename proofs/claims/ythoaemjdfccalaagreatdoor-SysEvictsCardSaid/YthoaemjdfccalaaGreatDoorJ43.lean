/- book.Make 1: what its text leaves open. -/
import Derived.Test.YthoaemjdfccalaaGreatDoorJ36
set_option linter.all false
namespace Go.Proofs.YthoaemjdfccalaaGreatDoor.Ev
open Go Go.RowKit
set_option maxRecDepth 1000000
theorem aKp:EvQ Cx 61 [.agg ((oF 1).map .v)] (Bo true):=CD (by kernel_rfl)
noncomputable def XR1:FuncId->List A->Option A:=orT 61 [([.agg ((oF 1).map .v)],Bo true)] fun _ _=>none
theorem aM8:QOk Cx.T Tryz.prog XR1:=fun f zs r h=>by unfold XR1 orT at h;cases hb:Nat.beq f 61 with|false=>simp[hb]at h|true=>obtain rfl:=Nat.eq_of_beq_eq_true hb;simp only[hb,cond_true]at h;have hm:=mS h;rw[List.mem_singleton]at hm;obtain⟨rfl,rfl⟩:=Prod.mk.inj hm;obtain⟨N,hN⟩:=aKp;exact(dU sF N).1 _ _ _ hN
theorem aLM:EvQ (CA XR1) 103 [.agg ((oF 1).map .v)] (.sl (jD 1).length (kZ (jD 1))):=CD (by kernel_rfl)
theorem aV8:(QS 1).all (chk Cx 58)=true:=by kernel_rfl
theorem aV0:HH 1=true:=by kernel_rfl
