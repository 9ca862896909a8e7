/- book.Make 2: what its text leaves open. -/
import Derived.Test.YtfkegfjggibdhaaGreatDoorN35
set_option linter.all false
namespace Go.Proofs.YtfkegfjggibdhaaGreatDoor.Ev
open Go Go.RowKit
set_option maxRecDepth 1000000
theorem aJr:EvQ Cx 61 [.agg ((oC 2).map .v)] (Bo true):=BU (by kernel_rfl)
noncomputable def XR2:FuncId->List A->Option A:=orT 61 [([.agg ((oC 2).map .v)],Bo true)] fun _ _=>none
theorem aPu:QOk Cx.T Tryz.prog XR2:=fun f zs r h=>by unfold XR2 orT at h;cases hb:Nat.beq f 61 with|false=>simp[hb]at h|true=>obtain rfl:=ax hb;simp only[hb,bq]at h;have hm:=mG h;rw[bl]at hm;obtain⟨rfl,rfl⟩:=mn hm;obtain⟨N,hN⟩:=aJr;exact(dP rZ N).1 _ _ _ hN
theorem aQg:EvQ (CA XR2) 103 [.agg ((oC 2).map .v)] (.sl (iZ 2).length (kN (iZ 2))):=BU (by kernel_rfl)
theorem aTz:(Q7 2).all (chk Cx 58)=true:=by kernel_rfl
theorem aTO:IT 2=true:=by kernel_rfl
