/- book.Make 2: what its text leaves open. -/
import Derived.Test.YtfkegfjggibdhaaGreatDoorV35
set_option linter.all false
namespace Go.Proofs.YtfkegfjggibdhaaGreatDoor.Ev
open Go Go.RowKit
set_option maxRecDepth 1000000
theorem aRn:EvQ Cx 61 [.agg ((oK 2).map .v)] (Bo true):=CG (by kernel_rfl)
noncomputable def XR2:FuncId->List A->Option A:=orT 61 [([.agg ((oK 2).map .v)],Bo true)] fun _ _=>none
theorem aM8:QOk Cx.T Tryz.prog XR2:=fun f zs r h=>by unfold XR2 orT at h;cases hb:Nat.beq f 61 with|false=>simp[hb]at h|true=>obtain rfl:=ax hb;simp only[hb,cc]at h;have hm:=mP h;rw[bl]at hm;obtain⟨rfl,rfl⟩:=mq hm;obtain⟨N,hN⟩:=aRn;exact(dO sJ N).1 _ _ _ hN
theorem aSh:EvQ (CA XR2) 103 [.agg ((oK 2).map .v)] (.sl (jA 2).length (kW (jA 2))):=CG (by kernel_rfl)
theorem aT6:(Q9 2).all (chk Cx 58)=true:=by kernel_rfl
theorem aXD:HS 2=true:=by kernel_rfl
