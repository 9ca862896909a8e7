/- Replacement states: what is done when a way is filled or used. -/
import Derived.Test.YtcgigdeehcmdkaaGreatDoorL19
set_option linter.all false
namespace Go.Proofs.YtcgigdeehcmdkaaGreatDoor.Ev
open Go Go.RowKit
set_option maxRecDepth 100000
theorem aGH:eJ 384 1 1=true:=by kernel_rfl
theorem aGf:eJ 384 1 2=true:=by kernel_rfl
theorem aLf:eJ 384 1 3=true:=by kernel_rfl
theorem aFx:eJ 384 1 4=true:=by kernel_rfl
theorem aHG:eJ 384 2 1=true:=by kernel_rfl
theorem aLa:eJ 384 2 2=true:=by kernel_rfl
theorem aJ8:eJ 384 2 3=true:=by kernel_rfl
theorem aLx:eJ 384 2 4=true:=by kernel_rfl
theorem aIw:eJ 384 3 1=true:=by kernel_rfl
theorem aIu:eJ 384 3 2=true:=by kernel_rfl
theorem aET:eJ 384 3 3=true:=by kernel_rfl
theorem aGs:eJ 384 3 4=true:=by kernel_rfl
theorem aGv:eJ 384 4 1=true:=by kernel_rfl
theorem aGN:eJ 384 4 2=true:=by kernel_rfl
theorem aHZ:eJ 384 4 3=true:=by kernel_rfl
theorem aKM:eJ 384 4 4=true:=by kernel_rfl
theorem aMn(k w:Nat)(hk:1<=k/\k<=4)(hw:1<=w/\w<=4):eJ 384 k w=true:=by(obtain rfl|rfl|rfl|rfl:k=1\/k=2\/k=3\/k=4:=by omega);{(obtain rfl|rfl|rfl|rfl:w=1\/w=2\/w=3\/w=4:=by omega);{exact aGH};{exact aGf};{exact aLf};{exact aFx}};{(obtain rfl|rfl|rfl|rfl:w=1\/w=2\/w=3\/w=4:=by omega);{exact aHG};{exact aLa};{exact aJ8};{exact aLx}};{(obtain rfl|rfl|rfl|rfl:w=1\/w=2\/w=3\/w=4:=by omega);{exact aIw};{exact aIu};{exact aET};{exact aGs}};{(obtain rfl|rfl|rfl|rfl:w=1\/w=2\/w=3\/w=4:=by omega);{exact aGv};{exact aGN};{exact aHZ};{exact aKM}}
noncomputable def AN(r:Rp)(i:Int):Rp:=if r.good=true/\(0<=i/\i<r.ways)then(WY 384 r i).getD r else r
theorem aC6{r:Rp}(h:r.Ok)(i:Int):(AN r i).Ok:=by unfold AN;split;{rename_i q;obtain⟨r',e,k,-⟩:=wQ aMn h q.1 q.2.1 q.2.2;simp_all};omega
theorem aEH{r:Rp}(h:r.Ok)(i:Int):EvQ Cx 384 [.agg (cR r),I64 i] (.agg (cR (AN r i))):=by unfold AN;by_cases q:r.good=true/\(0<=i/\i<r.ways);{rw[if_pos q];obtain⟨r',e,-⟩:=wQ aMn h q.1 q.2.1 q.2.2;rw[e];exact OP e};{rw[if_neg q];have hR:=MY r h;refine evF aUp ?_;cases hg:r.good;{rw[hg]at hR;simp(disch:=simp)only[go_sem,simprocAttr,QK.use hR]};{rw[hg]at hR;have q2:¬(0<=i/\i<r.ways):=fun x=>q ⟨hg,x⟩;by_cases z:0<=i;{simp(disch:=omega) [go_sem,simprocAttr,QK.use hR]};{simp(disch:=omega) [go_sem,simprocAttr,QK.use hR]}}}
theorem aB1:eJ 385 1 1=true:=by kernel_rfl
theorem aDW:eJ 385 1 2=true:=by kernel_rfl
theorem aCc:eJ 385 1 3=true:=by kernel_rfl
theorem aCN:eJ 385 1 4=true:=by kernel_rfl
theorem aCG:eJ 385 2 1=true:=by kernel_rfl
theorem aEo:eJ 385 2 2=true:=by kernel_rfl
theorem aEr:eJ 385 2 3=true:=by kernel_rfl
theorem aAx:eJ 385 2 4=true:=by kernel_rfl
theorem aDD:eJ 385 3 1=true:=by kernel_rfl
theorem aAG:eJ 385 3 2=true:=by kernel_rfl
theorem Y3:eJ 385 3 3=true:=by kernel_rfl
theorem aAq:eJ 385 3 4=true:=by kernel_rfl
theorem aEa:eJ 385 4 1=true:=by kernel_rfl
theorem aAY:eJ 385 4 2=true:=by kernel_rfl
theorem Z6:eJ 385 4 3=true:=by kernel_rfl
theorem aA4:eJ 385 4 4=true:=by kernel_rfl
theorem aDB(k w:Nat)(hk:1<=k/\k<=4)(hw:1<=w/\w<=4):eJ 385 k w=true:=by(obtain rfl|rfl|rfl|rfl:k=1\/k=2\/k=3\/k=4:=by omega);{(obtain rfl|rfl|rfl|rfl:w=1\/w=2\/w=3\/w=4:=by omega);{exact aB1};{exact aDW};{exact aCc};{exact aCN}};{(obtain rfl|rfl|rfl|rfl:w=1\/w=2\/w=3\/w=4:=by omega);{exact aCG};{exact aEo};{exact aEr};{exact aAx}};{(obtain rfl|rfl|rfl|rfl:w=1\/w=2\/w=3\/w=4:=by omega);{exact aDD};{exact aAG};{exact Y3};{exact aAq}};{(obtain rfl|rfl|rfl|rfl:w=1\/w=2\/w=3\/w=4:=by omega);{exact aEa};{exact aAY};{exact Z6};{exact aA4}}
noncomputable def vA(r:Rp)(i:Int):Rp:=if r.good=true/\(0<=i/\i<r.ways)then(WY 385 r i).getD r else r
theorem WX{r:Rp}(h:r.Ok)(i:Int):(vA r i).Ok:=by unfold vA;split;{rename_i q;obtain⟨r',e,k,-⟩:=wQ aDB h q.1 q.2.1 q.2.2;simp_all};omega
theorem aDp{r:Rp}(h:r.Ok)(i:Int):EvQ Cx 385 [.agg (cR r),I64 i] (.agg (cR (vA r i))):=by unfold vA;by_cases q:r.good=true/\(0<=i/\i<r.ways);{rw[if_pos q];obtain⟨r',e,-⟩:=wQ aDB h q.1 q.2.1 q.2.2;rw[e];exact OP e};{rw[if_neg q];have hR:=MY r h;refine evF aP4 ?_;cases hg:r.good;{rw[hg]at hR;simp(disch:=simp)only[go_sem,simprocAttr,QK.use hR]};{rw[hg]at hR;have q2:¬(0<=i/\i<r.ways):=fun x=>q ⟨hg,x⟩;by_cases z:0<=i;{simp(disch:=omega) [go_sem,simprocAttr,QK.use hR]};{simp(disch:=omega) [go_sem,simprocAttr,QK.use hR]}}}
