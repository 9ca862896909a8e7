/- book.Make 3: what its text leaves open. -/
import Derived.Test.YtfkegfjggibdhaaGreatDoorN35
set_option linter.all false
namespace Go.Proofs.YtfkegfjggibdhaaGreatDoor.Ev
open Go Go.RowKit
set_option maxRecDepth 1000000
theorem aNM:EvQ Cx 61 [.agg ((oC 3).map .v)] (Bo true):=BU (by kernel_rfl)
noncomputable def XR3:FuncId->List A->Option A:=orT 61 [([.agg ((oC 3).map .v)],Bo true)] fun _ _=>none
theorem aSB:QOk Cx.T Tryz.prog XR3:=fun f zs r h=>by unfold XR3 orT at h;cases hb:Nat.beq f 61 with|false=>simp[hb]at h|true=>obtain rfl:=ax hb;simp only[hb,bq]at h;have hm:=mG h;rw[bl]at hm;obtain⟨rfl,rfl⟩:=mn hm;obtain⟨N,hN⟩:=aNM;exact(dP rZ N).1 _ _ _ hN
theorem aOo:EvQ (CA XR3) 103 [.agg ((oC 3).map .v)] (.sl (iZ 3).length (kN (iZ 3))):=BU (by kernel_rfl)
theorem aW1:(Q7 3).all (chk Cx 58)=true:=by kernel_rfl
theorem aTH:IT 3=true:=by kernel_rfl
