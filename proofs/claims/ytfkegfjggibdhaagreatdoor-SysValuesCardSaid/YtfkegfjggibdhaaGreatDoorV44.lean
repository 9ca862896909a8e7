/- book.Make 3: what its text leaves open. -/
import Derived.Test.YtfkegfjggibdhaaGreatDoorV35
set_option linter.all false
namespace Go.Proofs.YtfkegfjggibdhaaGreatDoor.Ev
open Go Go.RowKit
set_option maxRecDepth 1000000
theorem aPy:EvQ Cx 61 [.agg ((oK 3).map .v)] (Bo true):=CG (by kernel_rfl)
noncomputable def XR3:FuncId->List A->Option A:=orT 61 [([.agg ((oK 3).map .v)],Bo true)] fun _ _=>none
theorem aMR:QOk Cx.T Tryz.prog XR3:=fun f zs r h=>by unfold XR3 orT at h;cases hb:Nat.beq f 61 with|false=>simp[hb]at h|true=>obtain rfl:=ax hb;simp only[hb,cc]at h;have hm:=mP h;rw[bl]at hm;obtain⟨rfl,rfl⟩:=mq hm;obtain⟨N,hN⟩:=aPy;exact(dO sJ N).1 _ _ _ hN
theorem aRi:EvQ (CA XR3) 103 [.agg ((oK 3).map .v)] (.sl (jA 3).length (kW (jA 3))):=CG (by kernel_rfl)
theorem aXR:(Q9 3).all (chk Cx 58)=true:=by kernel_rfl
theorem aVD:HS 3=true:=by kernel_rfl
