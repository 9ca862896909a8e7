/- Replacement states: what is done when a way is filled or used. -/
import Derived.Test.YtfkegfjggibdhaaGreatDoorN15
set_option linter.all false
namespace Go.Proofs.YtfkegfjggibdhaaGreatDoor.Ev
open Go Go.RowKit
set_option maxRecDepth 100000
theorem aFV:eN 308 1 1=true:=by kernel_rfl
theorem aFU:eN 308 1 2=true:=by kernel_rfl
theorem aGM:eN 308 1 3=true:=by kernel_rfl
theorem aEO:eN 308 1 4=true:=by kernel_rfl
theorem aEs:eN 308 2 1=true:=by kernel_rfl
theorem aFd:eN 308 2 2=true:=by kernel_rfl
theorem aD2:eN 308 2 3=true:=by kernel_rfl
theorem aEg:eN 308 2 4=true:=by kernel_rfl
theorem aEI:eN 308 3 1=true:=by kernel_rfl
theorem aD6:eN 308 3 2=true:=by kernel_rfl
theorem aEx:eN 308 3 3=true:=by kernel_rfl
theorem aDW:eN 308 3 4=true:=by kernel_rfl
theorem aES:eN 308 4 1=true:=by kernel_rfl
theorem aDY:eN 308 4 2=true:=by kernel_rfl
theorem aFp:eN 308 4 3=true:=by kernel_rfl
theorem aEb:eN 308 4 4=true:=by kernel_rfl
theorem SC(k w:Nat)(hk:1<=k/\k<=4)(hw:1<=w/\w<=4):eN 308 k w=true:=by(obtain rfl|rfl|rfl|rfl:k=1\/k=2\/k=3\/k=4:=by omega);{(obtain rfl|rfl|rfl|rfl:w=1\/w=2\/w=3\/w=4:=by omega);{exact aFV};{exact aFU};{exact aGM};{exact aEO}};{(obtain rfl|rfl|rfl|rfl:w=1\/w=2\/w=3\/w=4:=by omega);{exact aEs};{exact aFd};{exact aD2};{exact aEg}};{(obtain rfl|rfl|rfl|rfl:w=1\/w=2\/w=3\/w=4:=by omega);{exact aEI};{exact aD6};{exact aEx};{exact aDW}};{(obtain rfl|rfl|rfl|rfl:w=1\/w=2\/w=3\/w=4:=by omega);{exact aES};{exact aDY};{exact aFp};{exact aEb}}
noncomputable def qM(r:Rp)(i:Int):Rp:=if r.good=true/\(0<=i/\i<r.ways)then(TF 308 r i).getD r else r
theorem HY{r:Rp}(h:r.Ok)(i:Int):(qM r i).Ok:=by unfold qM;split;{rename_i q;obtain⟨r',e,k,-⟩:=nK SC h q.1 q.2.1 q.2.2;simp_all};omega
theorem aHb{r:Rp}(h:r.Ok)(i:Int):EvQ Cx 308 [.agg (cR r),I64 i] (.agg (cR (qM r i))):=by unfold qM;by_cases q:r.good=true/\(0<=i/\i<r.ways);{rw[if_pos q];obtain⟨r',e,-⟩:=nK SC h q.1 q.2.1 q.2.2;rw[e];exact PM e};{rw[if_neg q];have hR:=E2 r h;refine evF aS3 ?_;cases hg:r.good;{rw[hg]at hR;simp(disch:=simp)only[go_sem,simprocAttr,QK.use hR]};{rw[hg]at hR;have q2:¬(0<=i/\i<r.ways):=fun x=>q ⟨hg,x⟩;by_cases z:0<=i;{simp(disch:=omega) [go_sem,simprocAttr,QK.use hR]};{simp(disch:=omega) [go_sem,simprocAttr,QK.use hR]}}}
theorem aA1:eN 309 1 1=true:=by kernel_rfl
theorem Z0:eN 309 1 2=true:=by kernel_rfl
theorem aDk:eN 309 1 3=true:=by kernel_rfl
theorem YS:eN 309 1 4=true:=by kernel_rfl
theorem aDl:eN 309 2 1=true:=by kernel_rfl
theorem aAs:eN 309 2 2=true:=by kernel_rfl
theorem XD:eN 309 2 3=true:=by kernel_rfl
theorem aDO:eN 309 2 4=true:=by kernel_rfl
theorem aAN:eN 309 3 1=true:=by kernel_rfl
theorem aDI:eN 309 3 2=true:=by kernel_rfl
theorem W1:eN 309 3 3=true:=by kernel_rfl
theorem aAq:eN 309 3 4=true:=by kernel_rfl
theorem XJ:eN 309 4 1=true:=by kernel_rfl
theorem aAg:eN 309 4 2=true:=by kernel_rfl
theorem aCy:eN 309 4 3=true:=by kernel_rfl
theorem aDE:eN 309 4 4=true:=by kernel_rfl
theorem ER(k w:Nat)(hk:1<=k/\k<=4)(hw:1<=w/\w<=4):eN 309 k w=true:=by(obtain rfl|rfl|rfl|rfl:k=1\/k=2\/k=3\/k=4:=by omega);{(obtain rfl|rfl|rfl|rfl:w=1\/w=2\/w=3\/w=4:=by omega);{exact aA1};{exact Z0};{exact aDk};{exact YS}};{(obtain rfl|rfl|rfl|rfl:w=1\/w=2\/w=3\/w=4:=by omega);{exact aDl};{exact aAs};{exact XD};{exact aDO}};{(obtain rfl|rfl|rfl|rfl:w=1\/w=2\/w=3\/w=4:=by omega);{exact aAN};{exact aDI};{exact W1};{exact aAq}};{(obtain rfl|rfl|rfl|rfl:w=1\/w=2\/w=3\/w=4:=by omega);{exact XJ};{exact aAg};{exact aCy};{exact aDE}}
noncomputable def lQ(r:Rp)(i:Int):Rp:=if r.good=true/\(0<=i/\i<r.ways)then(TF 309 r i).getD r else r
theorem DE{r:Rp}(h:r.Ok)(i:Int):(lQ r i).Ok:=by unfold lQ;split;{rename_i q;obtain⟨r',e,k,-⟩:=nK ER h q.1 q.2.1 q.2.2;simp_all};omega
theorem WO{r:Rp}(h:r.Ok)(i:Int):EvQ Cx 309 [.agg (cR r),I64 i] (.agg (cR (lQ r i))):=by unfold lQ;by_cases q:r.good=true/\(0<=i/\i<r.ways);{rw[if_pos q];obtain⟨r',e,-⟩:=nK ER h q.1 q.2.1 q.2.2;rw[e];exact PM e};{rw[if_neg q];have hR:=E2 r h;refine evF aP3 ?_;cases hg:r.good;{rw[hg]at hR;simp(disch:=simp)only[go_sem,simprocAttr,QK.use hR]};{rw[hg]at hR;have q2:¬(0<=i/\i<r.ways):=fun x=>q ⟨hg,x⟩;by_cases z:0<=i;{simp(disch:=omega) [go_sem,simprocAttr,QK.use hR]};{simp(disch:=omega) [go_sem,simprocAttr,QK.use hR]}}}
