/- SysEnds: what is opened. -/
import Derived.Test.YtfkegfjggibdhaaGreatDoorN49
import Derived.Test.YtfkegfjggibdhaaGreatDoorN13
import Derived.Test.YtfkegfjggibdhaaGreatDoorN45
set_option linter.all false
namespace Go.Proofs.YtfkegfjggibdhaaGreatDoor
open Go Go.RowKit Go.Proofs.YtfkegfjggibdhaaGreatDoor.Ev
section
variable{H:Type}{enc:TypeId×Value->H}{w:World}{base:Nat}{spare:Nat->Bool}{held:Bool}{v:Value}{d:DataW H}{p:List MemPlace}
theorem U8{t:TypeId}{F:List A->Prop}(hr:∀{fuel:Nat} {cs:List Value} {x:DataW H×List MemPlace},DataW.trod enc Tryz.prog w base spare held fuel t cs=some x->jU Tryz.prog t x.1->fW w F cs)(hv:∃cs,v=.agg cs/\cs.size=Tryz.prog.cellsOf t)(h:DataW.Trod enc Tryz.prog w base spare held t v d p)(hd:jU Tryz.prog t d):∃l,F l/\R [] (fun _=>False) w (.agg l) v:=by obtain⟨cs,rfl,-⟩:=hv;obtain⟨fuel,hx⟩:=h;obtain⟨l,h1,h2⟩:=hr hx hd;refine⟨l,h1,?_⟩;rw[R];exact⟨cs.toList,by simp,by simpa[Value.cells]using h2⟩
theorem O6(hv:∃cs,v=.agg cs/\cs.size=Tryz.prog.cellsOf 44)(h:DataW.Trod enc Tryz.prog w base spare held 44 v d p)(hd:jU Tryz.prog 44 d):∃l,(∃W:Wo,W.Ok/\l=cW W)/\R [] (fun _=>False) w (.agg l) v:=U8 I2 hv h hd
end
theorem aE8{a:A}(h:gF (.sl [.sc (.int .i64)]) a):∃P:List Int,(∀p∈P,-9223372036854775808<=p/\p<9223372036854775808)/\P.length<=reachBytes/\a=.sl P.length (P.map fun p=>I64 p):=by obtain⟨l,rfl,hl,hc⟩:=aIC h;(obtain⟨xs,h1,rfl⟩:=oI (p:=fun p=>-9223372036854775808<=p/\p<9223372036854775808) (f:=fun p=>[I64 p]) fun c hc'=>by obtain⟨a,l',rfl,ha,hn⟩:=aX (hc c hc');obtain rfl:=fM hn;obtain⟨x,rfl,h1,h2⟩:=tA ha;grind);refine⟨xs,h1,by simp_all,?_⟩;(have:(xs.map fun p=>[I64 p]).flatten=xs.map fun p=>I64 p:=by clear h h1 hl hc;induction xs with|nil=>rfl|cons x xs ih=>simp_all);simp_all
namespace Ev
noncomputable def CWJ:Ctx:=CA (XC (CS Y11) CMk)
theorem CWJ_ok:jF Tryz.prog CWJ:=sD (aVR (aIJ aQw) rfl aO2 rfl)
theorem ends_B:CWJ.B 6=some g6.fn:=aSr
section
variable{w:Wo}(wo:w.Ok){m:Int}(hm:0<=m/\m<256){P:List Int}(hl:P.length<=reachBytes)(hr:∀p∈P,-9223372036854775808<=p/\p<9223372036854775808)
include wo hm hl hr
theorem SysEnds_ev:EvQ CWJ 6 [.agg (cW w),I8 m,.sl P.length (P.map fun p=>I64 p)] (Bo true):=aGo XQ W6 wo hm (gp hl (by decide)) hr
end
end Ev
