/- Replacement states: what is done when a way is filled or used. -/
import Derived.Test.YtpdphobnchajbaaGreatDoorK19
set_option linter.all false
namespace Go.Proofs.YtpdphobnchajbaaGreatDoor.Ev
open Go Go.RowKit
set_option maxRecDepth 100000
theorem aDP:d8 335 1 1=true:=by kernel_rfl
theorem aGI:d8 335 1 2=true:=by kernel_rfl
theorem aJO:d8 335 1 3=true:=by kernel_rfl
theorem aHG:d8 335 1 4=true:=by kernel_rfl
theorem aJl:d8 335 2 1=true:=by kernel_rfl
theorem aIx:d8 335 2 2=true:=by kernel_rfl
theorem aGM:d8 335 2 3=true:=by kernel_rfl
theorem aJW:d8 335 2 4=true:=by kernel_rfl
theorem aEY:d8 335 3 1=true:=by kernel_rfl
theorem aH3:d8 335 3 2=true:=by kernel_rfl
theorem aKe:d8 335 3 3=true:=by kernel_rfl
theorem aJi:d8 335 3 4=true:=by kernel_rfl
theorem aJC:d8 335 4 1=true:=by kernel_rfl
theorem aKp:d8 335 4 2=true:=by kernel_rfl
theorem aJa:d8 335 4 3=true:=by kernel_rfl
theorem aHN:d8 335 4 4=true:=by kernel_rfl
theorem aKE(k w:Nat)(hk:1<=k/\k<=4)(hw:1<=w/\w<=4):d8 335 k w=true:=by(obtain rfl|rfl|rfl|rfl:k=1\/k=2\/k=3\/k=4:=by omega);{(obtain rfl|rfl|rfl|rfl:w=1\/w=2\/w=3\/w=4:=by omega);{exact aDP};{exact aGI};{exact aJO};{exact aHG}};{(obtain rfl|rfl|rfl|rfl:w=1\/w=2\/w=3\/w=4:=by omega);{exact aJl};{exact aIx};{exact aGM};{exact aJW}};{(obtain rfl|rfl|rfl|rfl:w=1\/w=2\/w=3\/w=4:=by omega);{exact aEY};{exact aH3};{exact aKe};{exact aJi}};{(obtain rfl|rfl|rfl|rfl:w=1\/w=2\/w=3\/w=4:=by omega);{exact aJC};{exact aKp};{exact aJa};{exact aHN}}
noncomputable def B4(r:Rp)(i:Int):Rp:=if r.good=true/\(0<=i/\i<r.ways)then(U7 335 r i).getD r else r
theorem aAf{r:Rp}(h:r.Ok)(i:Int):(B4 r i).Ok:=by unfold B4;split;{rename_i q;obtain⟨r',e,k,-⟩:=yV aKE h q.1 q.2.1 q.2.2;rw[e];exact k};{exact h}
theorem aD1{r:Rp}(h:r.Ok)(i:Int):EvQ Cx 335 [.agg (cR r),I64 i] (.agg (cR (B4 r i))):=by unfold B4;by_cases q:r.good=true/\(0<=i/\i<r.ways);{rw[if_pos q];obtain⟨r',e,-⟩:=yV aKE h q.1 q.2.1 q.2.2;rw[e];exact ST e};{rw[if_neg q];have hR:=LX r h;refine evF aLN ?_;cases hg:r.good;{rw[hg]at hR;simp(disch:=omega)only[go_sem,simprocAttr,QK.use hR]};{rw[hg]at hR;have q2:¬(0<=i/\i<r.ways):=fun x=>q ⟨hg,x⟩;by_cases z:0<=i;{simp(disch:=omega)only[go_sem,simprocAttr,QK.use hR]};{simp(disch:=omega)only[go_sem,simprocAttr,QK.use hR]}}}
theorem aDm:d8 336 1 1=true:=by kernel_rfl
theorem aCt:d8 336 1 2=true:=by kernel_rfl
theorem aAG:d8 336 1 3=true:=by kernel_rfl
theorem aCg:d8 336 1 4=true:=by kernel_rfl
theorem aCB:d8 336 2 1=true:=by kernel_rfl
theorem XX:d8 336 2 2=true:=by kernel_rfl
theorem YZ:d8 336 2 3=true:=by kernel_rfl
theorem aDg:d8 336 2 4=true:=by kernel_rfl
theorem aC7:d8 336 3 1=true:=by kernel_rfl
theorem aA9:d8 336 3 2=true:=by kernel_rfl
theorem aDv:d8 336 3 3=true:=by kernel_rfl
theorem aAs:d8 336 3 4=true:=by kernel_rfl
theorem XQ:d8 336 4 1=true:=by kernel_rfl
theorem aAw:d8 336 4 2=true:=by kernel_rfl
theorem aCN:d8 336 4 3=true:=by kernel_rfl
theorem aAU:d8 336 4 4=true:=by kernel_rfl
theorem aA7(k w:Nat)(hk:1<=k/\k<=4)(hw:1<=w/\w<=4):d8 336 k w=true:=by(obtain rfl|rfl|rfl|rfl:k=1\/k=2\/k=3\/k=4:=by omega);{(obtain rfl|rfl|rfl|rfl:w=1\/w=2\/w=3\/w=4:=by omega);{exact aDm};{exact aCt};{exact aAG};{exact aCg}};{(obtain rfl|rfl|rfl|rfl:w=1\/w=2\/w=3\/w=4:=by omega);{exact aCB};{exact XX};{exact YZ};{exact aDg}};{(obtain rfl|rfl|rfl|rfl:w=1\/w=2\/w=3\/w=4:=by omega);{exact aC7};{exact aA9};{exact aDv};{exact aAs}};{(obtain rfl|rfl|rfl|rfl:w=1\/w=2\/w=3\/w=4:=by omega);{exact XQ};{exact aAw};{exact aCN};{exact aAU}}
noncomputable def vL(r:Rp)(i:Int):Rp:=if r.good=true/\(0<=i/\i<r.ways)then(U7 336 r i).getD r else r
theorem WD{r:Rp}(h:r.Ok)(i:Int):(vL r i).Ok:=by unfold vL;split;{rename_i q;obtain⟨r',e,k,-⟩:=yV aA7 h q.1 q.2.1 q.2.2;rw[e];exact k};{exact h}
theorem XM{r:Rp}(h:r.Ok)(i:Int):EvQ Cx 336 [.agg (cR r),I64 i] (.agg (cR (vL r i))):=by unfold vL;by_cases q:r.good=true/\(0<=i/\i<r.ways);{rw[if_pos q];obtain⟨r',e,-⟩:=yV aA7 h q.1 q.2.1 q.2.2;rw[e];exact ST e};{rw[if_neg q];have hR:=LX r h;refine evF aRM ?_;cases hg:r.good;{rw[hg]at hR;simp(disch:=omega)only[go_sem,simprocAttr,QK.use hR]};{rw[hg]at hR;have q2:¬(0<=i/\i<r.ways):=fun x=>q ⟨hg,x⟩;by_cases z:0<=i;{simp(disch:=omega)only[go_sem,simprocAttr,QK.use hR]};{simp(disch:=omega)only[go_sem,simprocAttr,QK.use hR]}}}
