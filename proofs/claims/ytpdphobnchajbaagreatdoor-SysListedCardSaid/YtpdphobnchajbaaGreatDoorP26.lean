/- check: the conditions of an instruction. -/
import Derived.Test.YtpdphobnchajbaaGreatDoorP18
import Derived.Test.YtpdphobnchajbaaGreatDoorP24
set_option linter.unusedSimpArgs false
set_option linter.unusedVariables false
namespace Go.Proofs.YtpdphobnchajbaaGreatDoor.Ev
open Go Go.RowKit
set_option maxRecDepth 100000
set_option maxHeartbeats 4000000
def Adds(C:Ctx)(f:FuncId)(zs:List A)(H:Heap)(x:A):Prop:=∃ l,EvO C f zs H x (H++l)
theorem Adds.use{C:Ctx}{f:FuncId}{zs:List A}{dst:Option Nat}{ms:List MOp}{e:Env}{H:Heap}{k:List It}{Q:Ex→Ev.St→Prop}{x:A}(h:Adds C f zs H x)(hk:∀ l,OpsK C 0 ms ⟨put e dst x,H++l⟩ k Q):PassK C f zs dst ms ⟨e,H⟩ k Q:=by
 obtain⟨l,h⟩:=h
 exact⟨x,_,h,hk l⟩
theorem Adds.of{C:Ctx}{f:FuncId}{zs:List A}{H:Heap}{G:A→Prop}(h:CallK C f zs H fun y K=>G y∧∃ l,K=H++l):∃ x,G x∧Adds C f zs H x:=by
 obtain⟨x,K,h1,h2,l,rfl⟩:=h
 exact⟨x,h2,l,h1⟩
def spB(x:Pl.Ins)(n k:Int):Option Blk:=some ⟨328,encI x++[I64 n,I64 k],true⟩
theorem arg_ev(r:Bool)(n:Int):∃ b,EvQ Cx 261 [encArg r n] (Bo b):=by
 have:∃ y,EvQ Cx 261 [encArg r n] y∧isBo y:=by
  refine evG_of CxB261 rfl (by simp[fn261]) ?_
  cases r
  ·simp(disch:=omega)only[go_sem,simprocAttr]
   exact⟨_,rfl⟩
  ·by_cases h:n<8
   ·simp(disch:=omega)only[go_sem,simprocAttr]
    exact⟨_,rfl⟩
   ·simp(disch:=omega)only[go_sem,simprocAttr]
    exact⟨_,rfl⟩
 obtain⟨_,h,b,rfl⟩:=this
 exact⟨b,h⟩
section
variable{H:Heap}{c sb:Nat}{x:Pl.Ins}{n k:Int}(hc:H[c]?=some (some ⟨369,[.ptr sb 0],true⟩))(hs:H[sb]?=some (spB x n k))
include hs in
theorem cMode(h1:1≤x.op)(h8:x.op≤8):∃ y,isBo y∧Adds Cx 262 [.ptr sb 0] H y:=by
 refine Adds.of ?_
 rw[callK_in CxB262 CxP262];refine⟨by simp[fn262],?_⟩
 unfold spB encI at hs
 simp only[List.cons_append,List.nil_append]at hs
 simp(disch:=omega)only[go_sem,simprocAttr,hs]
 repeat' (first|(((first|refine runK_bif (fun hb=>?_) (fun hb=>?_)|refine wantK_bif (fun hb=>?_) (fun hb=>?_))<;>(first|subst hb|(have hc:=hb;simp only[beq_iff_eq,beq_eq_false_iff_ne,Bool.not_eq_eq_eq_not,Bool.not_true,Bool.not_false,ne_eq]at hc)|skip))<;>(first|simp(disch:=omega)only[go_sem,simprocAttr,hb,hs,endK_back]|simp(disch:=omega)only[go_sem,simprocAttr,hs,endK_go,endK_back]))|(rw[runK_loop];simp(disch:=omega)only[go_sem,simprocAttr,hs,endK_go,endK_back]))
 all_goals exact⟨⟨_,rfl⟩,[],(List.append_nil _).symm⟩
theorem ops8{n:Int}(h1:1≤n)(h8:n≤8):n=1∨n=2∨n=3∨n=4∨n=5∨n=6∨n=7∨n=8:=by omega
include hs in
theorem cFn(h1:1≤x.op)(h8:x.op≤8):∃ y,isBo y∧Adds Cx 263 [.ptr sb 0] H y:=by
 refine Adds.of ?_
 rw[callK_in CxB263 CxP263];refine⟨by simp[fn263],?_⟩
 unfold spB encI at hs
 simp only[List.cons_append,List.nil_append]at hs
 simp(disch:=omega)only[go_sem,simprocAttr,hs]
 repeat' (first|(((first|refine runK_bif (fun hb=>?_) (fun hb=>?_)|refine wantK_bif (fun hb=>?_) (fun hb=>?_))<;>(first|subst hb|(have hc:=hb;simp only[beq_iff_eq,beq_eq_false_iff_ne,Bool.not_eq_eq_eq_not,Bool.not_true,Bool.not_false,ne_eq]at hc)|skip))<;>(first|simp(disch:=omega)only[go_sem,simprocAttr,hb,hs,endK_back]|simp(disch:=omega)only[go_sem,simprocAttr,hs,endK_go,endK_back]))|(rw[runK_loop];simp(disch:=omega)only[go_sem,simprocAttr,hs,endK_go,endK_back]))
 all_goals exact⟨⟨_,rfl⟩,[],(List.append_nil _).symm⟩
include hs hc in
theorem cOp:Adds Cx 254 [.ptr c 0] H (Bo (decide (1≤x.op∧x.op≤8))):=by
 have:∃ y,y=Bo (decide (1≤x.op∧x.op≤8))∧Adds Cx 254 [.ptr c 0] H y:=by
  refine Adds.of ?_
  rw[callK_in CxB254 CxP254];refine⟨by simp[fn254],?_⟩
  unfold spB encI at hs
  simp only[List.cons_append,List.nil_append]at hs
  by_cases h1:1≤x.op
  ·by_cases h8:x.op≤8
   ·rw[decide_eq_true ⟨h1,h8⟩]
    simp(disch:=omega)only[go_sem,simprocAttr,hs,hc,endK_back]
    exact⟨[],(List.append_nil _).symm⟩
   ·rw[decide_eq_false (fun h=>h8 h.2)]
    simp(disch:=omega)only[go_sem,simprocAttr,hs,hc,endK_back]
    exact⟨[],(List.append_nil _).symm⟩
  ·rw[decide_eq_false (fun h=>h1 h.1)]
   simp(disch:=omega)only[go_sem,simprocAttr,hs,hc,endK_back]
   exact⟨[],(List.append_nil _).symm⟩
 obtain⟨y,rfl,h⟩:=this
 exact h
include hs hc in
theorem cDst:∃ y,isBo y∧Adds Cx 257 [.ptr c 0] H y:=by
 refine Adds.of ?_
 rw[callK_in CxB257 CxP257];refine⟨by simp[fn257],?_⟩
 unfold spB encI at hs
 simp only[List.cons_append,List.nil_append]at hs
 simp(disch:=omega)only[go_sem,simprocAttr,hs,hc,endK_back]
 exact⟨⟨_,rfl⟩,[],(List.append_nil _).symm⟩
include hs hc in
theorem cArg:∃ y,isBo y∧Adds Cx 260 [.ptr c 0] H y:=by
 obtain⟨a,ha⟩:=arg_ev x.ra x.na
 obtain⟨b,hb⟩:=arg_ev x.rb x.nb
 refine Adds.of ?_
 rw[callK_in CxB260 CxP260];refine⟨by simp[fn260],?_⟩
 unfold spB encI at hs
 simp only[List.cons_append,List.nil_append]at hs
 cases a
 all_goals
  simp(disch:=omega)only[go_sem,simprocAttr,hs,hc,QK.use ha,QK.use hb,endK_back]
  exact⟨⟨_,rfl⟩,[],(List.append_nil _).symm⟩
theorem has_q(x:Pl.Ins)(n k f:Int)(h1:1≤x.op)(h8:x.op≤8):∃ b,EvQ Cx 259 [.fp [I8 x.op,I8 x.dst,I8 x.loc,Bo x.ra,I8 x.na,Bo x.rb,I8 x.nb,I8 x.fn,I8 x.mode,I8 x.skip,I64 n,I64 k],I8 f] (Bo b):=by
 have:∃ y,EvQ Cx 259 [.fp [I8 x.op,I8 x.dst,I8 x.loc,Bo x.ra,I8 x.na,Bo x.rb,I8 x.nb,I8 x.fn,I8 x.mode,I8 x.skip,I64 n,I64 k],I8 f] y∧isBo y:=by
  refine evG_of CxB259 rfl (by simp[fn259]) ?_
  obtain h|h|h|h|h|h|h|h:=ops8 h1 h8
  all_goals
   rw[h]
   simp(disch:=omega)only[go_sem,simprocAttr]
   exact⟨_,rfl⟩
 obtain⟨_,h,b,rfl⟩:=this
 exact⟨b,h⟩
include hs hc in
theorem cLoc(h1:1≤x.op)(h8:x.op≤8):∃ y,isBo y∧Adds Cx 258 [.ptr c 0] H y:=by
 obtain⟨b,hq⟩:=has_q x n k 2 h1 h8
 refine Adds.of ?_
 rw[callK_in CxB258 CxP258];refine⟨by simp[fn258],?_⟩
 unfold spB encI at hs
 simp only[List.cons_append,List.nil_append]at hs
 cases b
 all_goals
  simp(disch:=omega)only[go_sem,simprocAttr,hs,hc,QK.use hq,endK_back]
  exact⟨⟨_,rfl⟩,[],(List.append_nil _).symm⟩
include hs hc in
theorem cSkip(h1:1≤x.op)(h8:x.op≤8):∃ y,isBo y∧Adds Cx 264 [.ptr c 0] H y:=by
 obtain⟨b,hq⟩:=has_q x n k 64 h1 h8
 refine Adds.of ?_
 rw[callK_in CxB264 CxP264];refine⟨by simp[fn264],?_⟩
 unfold spB encI at hs
 simp only[List.cons_append,List.nil_append]at hs
 by_cases q:1≤x.skip
 all_goals
  cases b
  all_goals
   simp(disch:=omega)only[go_sem,simprocAttr,hs,hc,QK.use hq,endK_back]
   exact⟨⟨_,rfl⟩,[],(List.append_nil _).symm⟩
include hs hc in
theorem cNeed(h1:1≤x.op)(h8:x.op≤8):∃ y,isBo y∧Adds Cx 255 [.ptr c 0] H y:=by
 refine Adds.of ?_
 rw[callK_in CxB255 CxP255];refine⟨by simp[fn255],?_⟩
 unfold spB encI at hs
 simp only[List.cons_append,List.nil_append]at hs
 obtain h|h|h|h|h|h|h|h:=ops8 h1 h8
 all_goals
  rw[h]at hs
  have hs':=fun l=>low_app hs l
  have hc':=fun l=>low_app hc l
  simp(disch:=omega)only[go_sem,simprocAttr,hs,hc,hs',hc',ap_get0,ap_set0,ap_getk',ap_setk',passK_in CxB259 CxP259,passK_in CxB256 CxP256,endK_back]
  exact⟨⟨_,rfl⟩,_,rfl⟩
end
end Go.Proofs.YtpdphobnchajbaaGreatDoor.Ev
