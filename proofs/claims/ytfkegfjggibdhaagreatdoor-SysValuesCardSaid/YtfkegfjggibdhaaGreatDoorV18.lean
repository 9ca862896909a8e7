/- Replacement states: what is done when a way is filled or used. -/
import Derived.Test.YtfkegfjggibdhaaGreatDoorV13
set_option linter.all false
namespace Go.Proofs.YtfkegfjggibdhaaGreatDoor.Ev
open Go Go.RowKit
set_option maxRecDepth 100000
theorem aED:eG 308 1 1=true:=by kernel_rfl
theorem aHd:eG 308 1 2=true:=by kernel_rfl
theorem aFA:eG 308 1 3=true:=by kernel_rfl
theorem aEz:eG 308 1 4=true:=by kernel_rfl
theorem aGd:eG 308 2 1=true:=by kernel_rfl
theorem aHA:eG 308 2 2=true:=by kernel_rfl
theorem aEw:eG 308 2 3=true:=by kernel_rfl
theorem aHJ:eG 308 2 4=true:=by kernel_rfl
theorem aFs:eG 308 3 1=true:=by kernel_rfl
theorem aD0:eG 308 3 2=true:=by kernel_rfl
theorem aHc:eG 308 3 3=true:=by kernel_rfl
theorem aF7:eG 308 3 4=true:=by kernel_rfl
theorem aFx:eG 308 4 1=true:=by kernel_rfl
theorem aFC:eG 308 4 2=true:=by kernel_rfl
theorem aGW:eG 308 4 3=true:=by kernel_rfl
theorem aGH:eG 308 4 4=true:=by kernel_rfl
theorem aCP(k w:Nat)(hk:1<=k/\k<=4)(hw:1<=w/\w<=4):eG 308 k w=true:=by(obtain rfl|rfl|rfl|rfl:k=1\/k=2\/k=3\/k=4:=by omega);{(obtain rfl|rfl|rfl|rfl:w=1\/w=2\/w=3\/w=4:=by omega);{exact aED};{exact aHd};{exact aFA};{exact aEz}};{(obtain rfl|rfl|rfl|rfl:w=1\/w=2\/w=3\/w=4:=by omega);{exact aGd};{exact aHA};{exact aEw};{exact aHJ}};{(obtain rfl|rfl|rfl|rfl:w=1\/w=2\/w=3\/w=4:=by omega);{exact aFs};{exact aD0};{exact aHc};{exact aF7}};{(obtain rfl|rfl|rfl|rfl:w=1\/w=2\/w=3\/w=4:=by omega);{exact aFx};{exact aFC};{exact aGW};{exact aGH}}
noncomputable def uW(r:Rp)(i:Int):Rp:=if r.good=true/\(0<=i/\i<r.ways)then(UB 308 r i).getD r else r
theorem JF{r:Rp}(h:r.Ok)(i:Int):(uW r i).Ok:=by unfold uW;split;{rename_i q;obtain⟨r',e,k,-⟩:=rZ aCP h q.1 q.2.1 q.2.2;simp_all};omega
theorem aHS{r:Rp}(h:r.Ok)(i:Int):EvQ Cx 308 [.agg (cR r),I64 i] (.agg (cR (uW r i))):=by unfold uW;by_cases q:r.good=true/\(0<=i/\i<r.ways);{rw[if_pos q];obtain⟨r',e,-⟩:=rZ aCP h q.1 q.2.1 q.2.2;rw[e];exact QZ e};{rw[if_neg q];have hR:=N3 r h;refine evF aOU ?_;cases hg:r.good;{rw[hg]at hR;simp(disch:=simp)only[go_sem,simprocAttr,QK.use hR]};{rw[hg]at hR;have q2:¬(0<=i/\i<r.ways):=fun x=>q ⟨hg,x⟩;by_cases z:0<=i;{simp(disch:=omega) [go_sem,simprocAttr,QK.use hR]};{simp(disch:=omega) [go_sem,simprocAttr,QK.use hR]}}}
theorem aB8:eG 309 1 1=true:=by kernel_rfl
theorem aCv:eG 309 1 2=true:=by kernel_rfl
theorem X6:eG 309 1 3=true:=by kernel_rfl
theorem aBK:eG 309 1 4=true:=by kernel_rfl
theorem XF:eG 309 2 1=true:=by kernel_rfl
theorem WX:eG 309 2 2=true:=by kernel_rfl
theorem aDk:eG 309 2 3=true:=by kernel_rfl
theorem XN:eG 309 2 4=true:=by kernel_rfl
theorem aCH:eG 309 3 1=true:=by kernel_rfl
theorem aDD:eG 309 3 2=true:=by kernel_rfl
theorem aBU:eG 309 3 3=true:=by kernel_rfl
theorem ZL:eG 309 3 4=true:=by kernel_rfl
theorem aAU:eG 309 4 1=true:=by kernel_rfl
theorem YC:eG 309 4 2=true:=by kernel_rfl
theorem aCG:eG 309 4 3=true:=by kernel_rfl
theorem aA7:eG 309 4 4=true:=by kernel_rfl
theorem MO(k w:Nat)(hk:1<=k/\k<=4)(hw:1<=w/\w<=4):eG 309 k w=true:=by(obtain rfl|rfl|rfl|rfl:k=1\/k=2\/k=3\/k=4:=by omega);{(obtain rfl|rfl|rfl|rfl:w=1\/w=2\/w=3\/w=4:=by omega);{exact aB8};{exact aCv};{exact X6};{exact aBK}};{(obtain rfl|rfl|rfl|rfl:w=1\/w=2\/w=3\/w=4:=by omega);{exact XF};{exact WX};{exact aDk};{exact XN}};{(obtain rfl|rfl|rfl|rfl:w=1\/w=2\/w=3\/w=4:=by omega);{exact aCH};{exact aDD};{exact aBU};{exact ZL}};{(obtain rfl|rfl|rfl|rfl:w=1\/w=2\/w=3\/w=4:=by omega);{exact aAU};{exact YC};{exact aCG};{exact aA7}}
noncomputable def oJ(r:Rp)(i:Int):Rp:=if r.good=true/\(0<=i/\i<r.ways)then(UB 309 r i).getD r else r
theorem CL{r:Rp}(h:r.Ok)(i:Int):(oJ r i).Ok:=by unfold oJ;split;{rename_i q;obtain⟨r',e,k,-⟩:=rZ MO h q.1 q.2.1 q.2.2;simp_all};omega
theorem aDh{r:Rp}(h:r.Ok)(i:Int):EvQ Cx 309 [.agg (cR r),I64 i] (.agg (cR (oJ r i))):=by unfold oJ;by_cases q:r.good=true/\(0<=i/\i<r.ways);{rw[if_pos q];obtain⟨r',e,-⟩:=rZ MO h q.1 q.2.1 q.2.2;rw[e];exact QZ e};{rw[if_neg q];have hR:=N3 r h;refine evF aMN ?_;cases hg:r.good;{rw[hg]at hR;simp(disch:=simp)only[go_sem,simprocAttr,QK.use hR]};{rw[hg]at hR;have q2:¬(0<=i/\i<r.ways):=fun x=>q ⟨hg,x⟩;by_cases z:0<=i;{simp(disch:=omega) [go_sem,simprocAttr,QK.use hR]};{simp(disch:=omega) [go_sem,simprocAttr,QK.use hR]}}}
