/- book.Make 1: what its text leaves open. -/
import Derived.Test.YtfkegfjggibdhaaGreatDoorN35
set_option linter.all false
namespace Go.Proofs.YtfkegfjggibdhaaGreatDoor.Ev
open Go Go.RowKit
set_option maxRecDepth 1000000
theorem aQu:EvQ Cx 61 [.agg ((oC 1).map .v)] (Bo true):=BU (by kernel_rfl)
noncomputable def XR1:FuncId->List A->Option A:=orT 61 [([.agg ((oC 1).map .v)],Bo true)] fun _ _=>none
theorem aOj:QOk Cx.T Tryz.prog XR1:=fun f zs r h=>by unfold XR1 orT at h;cases hb:Nat.beq f 61 with|false=>simp[hb]at h|true=>obtain rfl:=ax hb;simp only[hb,bq]at h;have hm:=mG h;rw[bl]at hm;obtain⟨rfl,rfl⟩:=mn hm;obtain⟨N,hN⟩:=aQu;exact(dP rZ N).1 _ _ _ hN
theorem aLy:EvQ (CA XR1) 103 [.agg ((oC 1).map .v)] (.sl (iZ 1).length (kN (iZ 1))):=BU (by kernel_rfl)
theorem aYg:(Q7 1).all (chk Cx 58)=true:=by kernel_rfl
theorem aTG:IT 1=true:=by kernel_rfl
