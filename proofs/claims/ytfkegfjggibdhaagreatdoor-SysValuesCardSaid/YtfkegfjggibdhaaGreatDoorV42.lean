/- book.Make 1: what its text leaves open. -/
import Derived.Test.YtfkegfjggibdhaaGreatDoorV35
set_option linter.all false
namespace Go.Proofs.YtfkegfjggibdhaaGreatDoor.Ev
open Go Go.RowKit
set_option maxRecDepth 1000000
theorem aKR:EvQ Cx 61 [.agg ((oK 1).map .v)] (Bo true):=CG (by kernel_rfl)
noncomputable def XR1:FuncId->List A->Option A:=orT 61 [([.agg ((oK 1).map .v)],Bo true)] fun _ _=>none
theorem aSl:QOk Cx.T Tryz.prog XR1:=fun f zs r h=>by unfold XR1 orT at h;cases hb:Nat.beq f 61 with|false=>simp[hb]at h|true=>obtain rfl:=ax hb;simp only[hb,cc]at h;have hm:=mP h;rw[bl]at hm;obtain⟨rfl,rfl⟩:=mq hm;obtain⟨N,hN⟩:=aKR;exact(dO sJ N).1 _ _ _ hN
theorem aQp:EvQ (CA XR1) 103 [.agg ((oK 1).map .v)] (.sl (jA 1).length (kW (jA 1))):=CG (by kernel_rfl)
theorem aUU:(Q9 1).all (chk Cx 58)=true:=by kernel_rfl
theorem aS9:HS 1=true:=by kernel_rfl
