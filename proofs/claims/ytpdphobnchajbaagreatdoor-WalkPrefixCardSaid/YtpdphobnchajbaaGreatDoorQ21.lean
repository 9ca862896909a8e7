/- check: the conditions of an instruction. -/
import Derived.Test.YtpdphobnchajbaaGreatDoorQ13
import Derived.Test.YtpdphobnchajbaaGreatDoorQ19
set_option linter.unusedSimpArgs false
set_option linter.unusedVariables false
namespace Go.Proofs.YtpdphobnchajbaaGreatDoor.Ev
open Go Go.RowKit
set_option maxRecDepth 100000
set_option maxHeartbeats 4000000
def dI(C:Ctx)(f:FuncId)(zs:List A)(H:aG)(x:A):Prop:=∃ l,EvO C f zs H x (H++l)
theorem dI.use{C:Ctx}{f:FuncId}{zs:List A}{dst:Option Nat}{ms:List MOp}{e:Env}{H:aG}{k:List It}{Q:Ex→Ev.St→Prop}{x:A}(h:dI C f zs H x)(hk:∀ l,iH C 0 ms ⟨put e dst x,H++l⟩ k Q):bB C f zs dst ms ⟨e,H⟩ k Q:=by
 obtain⟨l,h⟩:=h
 exact⟨x,_,h,hk l⟩
theorem dI.of{C:Ctx}{f:FuncId}{zs:List A}{H:aG}{G:A→Prop}(h:bW C f zs H fun y K=>G y∧∃ l,K=H++l):∃ x,G x∧dI C f zs H x:=by
 obtain⟨x,K,h1,h2,l,rfl⟩:=h
 exact⟨x,h2,l,h1⟩
def spB(x:Pl.Ins)(n k:Int):Option Blk:=some ⟨328,oR x++[I64 n,I64 k],true⟩
theorem aEk(r:Bool)(n:Int):∃ b,EvQ Cx 261 [OG r n] (Bo b):=by
 have:∃ y,EvQ Cx 261 [OG r n] y∧hJ y:=by
  refine cA aTQ rfl (by simp[IC]) ?_
  cases r
  ·simp(disch:=omega)only[go_sem,simprocAttr]
   exact⟨_,rfl⟩
  ·by_cases h:n<8
   ·simp(disch:=omega)only[go_sem,simprocAttr]
    exact⟨_,rfl⟩
   ·simp(disch:=omega)only[go_sem,simprocAttr]
    exact⟨_,rfl⟩
 obtain⟨_,h,b,rfl⟩:=this
 exact⟨b,h⟩
section
variable{H:aG}{c sb:Nat}{x:Pl.Ins}{n k:Int}(hc:H[c]?=some (some ⟨369,[.ptr sb 0],true⟩))(hs:H[sb]?=some (spB x n k))
include hs in
theorem a8e(h1:1≤x.op)(h8:x.op≤8):∃ y,hJ y∧dI Cx 262 [.ptr sb 0] H y:=by
 refine dI.of ?_
 rw[aP aQj aXw];refine⟨by simp[FX],?_⟩
 unfold spB oR at hs
 simp only[List.cons_append,List.nil_append]at hs
 simp(disch:=omega)only[go_sem,simprocAttr,hs]
 repeat' (first|(((first|refine bD (fun hb=>?_) (fun hb=>?_)|refine bY (fun hb=>?_) (fun hb=>?_))<;>(first|subst hb|(have hc:=hb;simp only[beq_iff_eq,beq_eq_false_iff_ne,Bool.not_eq_eq_eq_not,Bool.not_true,Bool.not_false,ne_eq]at hc)|skip))<;>(first|simp(disch:=omega)only[go_sem,simprocAttr,hb,hs,aE]|simp(disch:=omega)only[go_sem,simprocAttr,hs,aW,aE]))|(rw[aA];simp(disch:=omega)only[go_sem,simprocAttr,hs,aW,aE]))
 all_goals exact⟨⟨_,rfl⟩,[],(List.append_nil _).symm⟩
theorem a9P{n:Int}(h1:1≤n)(h8:n≤8):n=1∨n=2∨n=3∨n=4∨n=5∨n=6∨n=7∨n=8:=by omega
include hs in
theorem cFn(h1:1≤x.op)(h8:x.op≤8):∃ y,hJ y∧dI Cx 263 [.ptr sb 0] H y:=by
 refine dI.of ?_
 rw[aP aTp a0B];refine⟨by simp[HF],?_⟩
 unfold spB oR at hs
 simp only[List.cons_append,List.nil_append]at hs
 simp(disch:=omega)only[go_sem,simprocAttr,hs]
 repeat' (first|(((first|refine bD (fun hb=>?_) (fun hb=>?_)|refine bY (fun hb=>?_) (fun hb=>?_))<;>(first|subst hb|(have hc:=hb;simp only[beq_iff_eq,beq_eq_false_iff_ne,Bool.not_eq_eq_eq_not,Bool.not_true,Bool.not_false,ne_eq]at hc)|skip))<;>(first|simp(disch:=omega)only[go_sem,simprocAttr,hb,hs,aE]|simp(disch:=omega)only[go_sem,simprocAttr,hs,aW,aE]))|(rw[aA];simp(disch:=omega)only[go_sem,simprocAttr,hs,aW,aE]))
 all_goals exact⟨⟨_,rfl⟩,[],(List.append_nil _).symm⟩
include hs hc in
theorem cOp:dI Cx 254 [.ptr c 0] H (Bo (decide (1≤x.op∧x.op≤8))):=by
 have:∃ y,y=Bo (decide (1≤x.op∧x.op≤8))∧dI Cx 254 [.ptr c 0] H y:=by
  refine dI.of ?_
  rw[aP aSs aZa];refine⟨by simp[G4],?_⟩
  unfold spB oR at hs
  simp only[List.cons_append,List.nil_append]at hs
  by_cases h1:1≤x.op
  ·by_cases h8:x.op≤8
   ·rw[decide_eq_true ⟨h1,h8⟩]
    simp(disch:=omega)only[go_sem,simprocAttr,hs,hc,aE]
    exact⟨[],(List.append_nil _).symm⟩
   ·rw[decide_eq_false (fun h=>h8 h.2)]
    simp(disch:=omega)only[go_sem,simprocAttr,hs,hc,aE]
    exact⟨[],(List.append_nil _).symm⟩
  ·rw[decide_eq_false (fun h=>h1 h.1)]
   simp(disch:=omega)only[go_sem,simprocAttr,hs,hc,aE]
   exact⟨[],(List.append_nil _).symm⟩
 obtain⟨y,rfl,h⟩:=this
 exact h
include hs hc in
theorem bB0:∃ y,hJ y∧dI Cx 257 [.ptr c 0] H y:=by
 refine dI.of ?_
 rw[aP aZR aVL];refine⟨by simp[LA],?_⟩
 unfold spB oR at hs
 simp only[List.cons_append,List.nil_append]at hs
 simp(disch:=omega)only[go_sem,simprocAttr,hs,hc,aE]
 exact⟨⟨_,rfl⟩,[],(List.append_nil _).symm⟩
include hs hc in
theorem bC9:∃ y,hJ y∧dI Cx 260 [.ptr c 0] H y:=by
 obtain⟨a,ha⟩:=aEk x.ra x.na
 obtain⟨b,hb⟩:=aEk x.rb x.nb
 refine dI.of ?_
 rw[aP aTR aPD];refine⟨by simp[JN],?_⟩
 unfold spB oR at hs
 simp only[List.cons_append,List.nil_append]at hs
 cases a
 all_goals
  simp(disch:=omega)only[go_sem,simprocAttr,hs,hc,QK.use ha,QK.use hb,aE]
  exact⟨⟨_,rfl⟩,[],(List.append_nil _).symm⟩
theorem aOi(x:Pl.Ins)(n k f:Int)(h1:1≤x.op)(h8:x.op≤8):∃ b,EvQ Cx 259 [.fp [I8 x.op,I8 x.dst,I8 x.loc,Bo x.ra,I8 x.na,Bo x.rb,I8 x.nb,I8 x.fn,I8 x.mode,I8 x.skip,I64 n,I64 k],I8 f] (Bo b):=by
 have:∃ y,EvQ Cx 259 [.fp [I8 x.op,I8 x.dst,I8 x.loc,Bo x.ra,I8 x.na,Bo x.rb,I8 x.nb,I8 x.fn,I8 x.mode,I8 x.skip,I64 n,I64 k],I8 f] y∧hJ y:=by
  refine cA aDw rfl (by simp[G2]) ?_
  obtain h|h|h|h|h|h|h|h:=a9P h1 h8
  all_goals
   rw[h]
   simp(disch:=omega)only[go_sem,simprocAttr]
   exact⟨_,rfl⟩
 obtain⟨_,h,b,rfl⟩:=this
 exact⟨b,h⟩
include hs hc in
theorem bB3(h1:1≤x.op)(h8:x.op≤8):∃ y,hJ y∧dI Cx 258 [.ptr c 0] H y:=by
 obtain⟨b,hq⟩:=aOi x n k 2 h1 h8
 refine dI.of ?_
 rw[aP aPK aWq];refine⟨by simp[H7],?_⟩
 unfold spB oR at hs
 simp only[List.cons_append,List.nil_append]at hs
 cases b
 all_goals
  simp(disch:=omega)only[go_sem,simprocAttr,hs,hc,QK.use hq,aE]
  exact⟨⟨_,rfl⟩,[],(List.append_nil _).symm⟩
include hs hc in
theorem a4I(h1:1≤x.op)(h8:x.op≤8):∃ y,hJ y∧dI Cx 264 [.ptr c 0] H y:=by
 obtain⟨b,hq⟩:=aOi x n k 64 h1 h8
 refine dI.of ?_
 rw[aP a1x aYd];refine⟨by simp[MO],?_⟩
 unfold spB oR at hs
 simp only[List.cons_append,List.nil_append]at hs
 by_cases q:1≤x.skip
 all_goals
  cases b
  all_goals
   simp(disch:=omega)only[go_sem,simprocAttr,hs,hc,QK.use hq,aE]
   exact⟨⟨_,rfl⟩,[],(List.append_nil _).symm⟩
include hs hc in
theorem bAN(h1:1≤x.op)(h8:x.op≤8):∃ y,hJ y∧dI Cx 255 [.ptr c 0] H y:=by
 refine dI.of ?_
 rw[aP aO8 aY3];refine⟨by simp[GQ],?_⟩
 unfold spB oR at hs
 simp only[List.cons_append,List.nil_append]at hs
 obtain h|h|h|h|h|h|h|h:=a9P h1 h8
 all_goals
  rw[h]at hs
  have hs':=fun l=>aI hs l
  have hc':=fun l=>aI hc l
  simp(disch:=omega)only[go_sem,simprocAttr,hs,hc,hs',hc',e9,C9,aZ,y6,aK aDw aZZ,aK aPo aYx,aE]
  exact⟨⟨_,rfl⟩,_,rfl⟩
end
end Go.Proofs.YtpdphobnchajbaaGreatDoor.Ev
