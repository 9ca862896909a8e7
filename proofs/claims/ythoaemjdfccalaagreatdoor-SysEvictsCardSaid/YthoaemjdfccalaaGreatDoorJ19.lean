/- Replacement states: what is done when a way is filled or used. -/
import Derived.Test.YthoaemjdfccalaaGreatDoorJ14
set_option linter.all false
namespace Go.Proofs.YthoaemjdfccalaaGreatDoor.Ev
open Go Go.RowKit
set_option maxRecDepth 100000
theorem aGY:eU 308 1 1=true:=by kernel_rfl
theorem aIC:eU 308 1 2=true:=by kernel_rfl
theorem aFm:eU 308 1 3=true:=by kernel_rfl
theorem aIH:eU 308 1 4=true:=by kernel_rfl
theorem aFU:eU 308 2 1=true:=by kernel_rfl
theorem aF6:eU 308 2 2=true:=by kernel_rfl
theorem aDW:eU 308 2 3=true:=by kernel_rfl
theorem aFp:eU 308 2 4=true:=by kernel_rfl
theorem aD6:eU 308 3 1=true:=by kernel_rfl
theorem aF7:eU 308 3 2=true:=by kernel_rfl
theorem aFy:eU 308 3 3=true:=by kernel_rfl
theorem aHj:eU 308 3 4=true:=by kernel_rfl
theorem aET:eU 308 4 1=true:=by kernel_rfl
theorem aE9:eU 308 4 2=true:=by kernel_rfl
theorem aII:eU 308 4 3=true:=by kernel_rfl
theorem aG9:eU 308 4 4=true:=by kernel_rfl
theorem ZI(k w:Nat)(hk:1<=k/\k<=4)(hw:1<=w/\w<=4):eU 308 k w=true:=by(obtain rfl|rfl|rfl|rfl:k=1\/k=2\/k=3\/k=4:=by omega);{(obtain rfl|rfl|rfl|rfl:w=1\/w=2\/w=3\/w=4:=by omega);{exact aGY};{exact aIC};{exact aFm};{exact aIH}};{(obtain rfl|rfl|rfl|rfl:w=1\/w=2\/w=3\/w=4:=by omega);{exact aFU};{exact aF6};{exact aDW};{exact aFp}};{(obtain rfl|rfl|rfl|rfl:w=1\/w=2\/w=3\/w=4:=by omega);{exact aD6};{exact aF7};{exact aFy};{exact aHj}};{(obtain rfl|rfl|rfl|rfl:w=1\/w=2\/w=3\/w=4:=by omega);{exact aET};{exact aE9};{exact aII};{exact aG9}}
noncomputable def vV(r:Rp)(i:Int):Rp:=if r.good=true/\(0<=i/\i<r.ways)then(UY 308 r i).getD r else r
theorem JF{r:Rp}(h:r.Ok)(i:Int):(vV r i).Ok:=by unfold vV;split;{rename_i q;obtain⟨r',e,k,-⟩:=rM ZI h q.1 q.2.1 q.2.2;simp_all};omega
theorem aDh{r:Rp}(h:r.Ok)(i:Int):EvQ Cx 308 [.agg (cR r),I64 i] (.agg (cR (vV r i))):=by unfold vV;by_cases q:r.good=true/\(0<=i/\i<r.ways);{rw[if_pos q];obtain⟨r',e,-⟩:=rM ZI h q.1 q.2.1 q.2.2;rw[e];exact QJ e};{rw[if_neg q];have hR:=NA r h;refine evF aRx ?_;cases hg:r.good;{rw[hg]at hR;simp(disch:=simp)only[go_sem,simprocAttr,QK.use hR]};{rw[hg]at hR;have q2:¬(0<=i/\i<r.ways):=fun x=>q ⟨hg,x⟩;by_cases z:0<=i;{simp(disch:=omega) [go_sem,simprocAttr,QK.use hR]};{simp(disch:=omega) [go_sem,simprocAttr,QK.use hR]}}}
theorem aBG:eU 309 1 1=true:=by kernel_rfl
theorem aCD:eU 309 1 2=true:=by kernel_rfl
theorem aBR:eU 309 1 3=true:=by kernel_rfl
theorem aBN:eU 309 1 4=true:=by kernel_rfl
theorem aBO:eU 309 2 1=true:=by kernel_rfl
theorem Z9:eU 309 2 2=true:=by kernel_rfl
theorem aA4:eU 309 2 3=true:=by kernel_rfl
theorem aB4:eU 309 2 4=true:=by kernel_rfl
theorem YG:eU 309 3 1=true:=by kernel_rfl
theorem aB6:eU 309 3 2=true:=by kernel_rfl
theorem aBj:eU 309 3 3=true:=by kernel_rfl
theorem Y5:eU 309 3 4=true:=by kernel_rfl
theorem aAz:eU 309 4 1=true:=by kernel_rfl
theorem ZQ:eU 309 4 2=true:=by kernel_rfl
theorem aAc:eU 309 4 3=true:=by kernel_rfl
theorem YF:eU 309 4 4=true:=by kernel_rfl
theorem OA(k w:Nat)(hk:1<=k/\k<=4)(hw:1<=w/\w<=4):eU 309 k w=true:=by(obtain rfl|rfl|rfl|rfl:k=1\/k=2\/k=3\/k=4:=by omega);{(obtain rfl|rfl|rfl|rfl:w=1\/w=2\/w=3\/w=4:=by omega);{exact aBG};{exact aCD};{exact aBR};{exact aBN}};{(obtain rfl|rfl|rfl|rfl:w=1\/w=2\/w=3\/w=4:=by omega);{exact aBO};{exact Z9};{exact aA4};{exact aB4}};{(obtain rfl|rfl|rfl|rfl:w=1\/w=2\/w=3\/w=4:=by omega);{exact YG};{exact aB6};{exact aBj};{exact Y5}};{(obtain rfl|rfl|rfl|rfl:w=1\/w=2\/w=3\/w=4:=by omega);{exact aAz};{exact ZQ};{exact aAc};{exact YF}}
noncomputable def oA(r:Rp)(i:Int):Rp:=if r.good=true/\(0<=i/\i<r.ways)then(UY 309 r i).getD r else r
theorem CP{r:Rp}(h:r.Ok)(i:Int):(oA r i).Ok:=by unfold oA;split;{rename_i q;obtain⟨r',e,k,-⟩:=rM OA h q.1 q.2.1 q.2.2;simp_all};omega
theorem aAl{r:Rp}(h:r.Ok)(i:Int):EvQ Cx 309 [.agg (cR r),I64 i] (.agg (cR (oA r i))):=by unfold oA;by_cases q:r.good=true/\(0<=i/\i<r.ways);{rw[if_pos q];obtain⟨r',e,-⟩:=rM OA h q.1 q.2.1 q.2.2;rw[e];exact QJ e};{rw[if_neg q];have hR:=NA r h;refine evF aML ?_;cases hg:r.good;{rw[hg]at hR;simp(disch:=simp)only[go_sem,simprocAttr,QK.use hR]};{rw[hg]at hR;have q2:¬(0<=i/\i<r.ways):=fun x=>q ⟨hg,x⟩;by_cases z:0<=i;{simp(disch:=omega) [go_sem,simprocAttr,QK.use hR]};{simp(disch:=omega) [go_sem,simprocAttr,QK.use hR]}}}
