/- The evaluator's context: types and bodies, and that they are the program's. Printed by wip/ev/gen/ctx.py. -/
import Derived.Test.YtpdphobnchajbaaGreatDoorQ03
import Derived.Test.YtpdphobnchajbaaGreatDoorChecked
import Derived.Test.YtpdphobnchajbaaGreatDoorQ04
import Derived.Test.YtpdphobnchajbaaGreatDoorQ05
set_option linter.unusedSimpArgs false
set_option linter.unusedVariables false
namespace Go.Proofs.YtpdphobnchajbaaGreatDoor.Ev
open Go Go.RowKit
set_option maxRecDepth 100000
structure jC(a:Option Ty) where
 t:Ty
 h:a=some t
def ty1:Ty:=⟨.func,1,8,[.nilFunc],true⟩
theorem a7A:bC Tryz.prog 1=some ty1:=by kernel_rfl
def ty3:Ty:=⟨(.int .i64),1,8,[(.int .i64 0)],true⟩
theorem a7B:bC Tryz.prog 3=some ty3:=by kernel_rfl
def ty4:Ty:=⟨.bool,1,1,[(.bool false)],true⟩
theorem a5y:bC Tryz.prog 4=some ty4:=by kernel_rfl
def ty5:Ty:=⟨(.int .u8),1,1,[(.int .u8 0)],true⟩
theorem bAk:bC Tryz.prog 5=some ty5:=by kernel_rfl
def ty9:Ty:=⟨.str,1,16,[(.string ⟨#[]⟩)],true⟩
theorem a6f:bC Tryz.prog 9=some ty9:=by kernel_rfl
def aKj:Ty:=⟨.other,1,16,[.nilIface],true⟩
theorem a0K:bC Tryz.prog 20=some aKj:=by kernel_rfl
def aHk:Ty:=⟨(.slice 9),1,24,[(.slice none 0 0)],true⟩
theorem aQw:bC Tryz.prog 22=some aHk:=by kernel_rfl
def aIW:Ty:=⟨(.slice 5),1,24,[(.slice none 0 0)],true⟩
theorem aTe:bC Tryz.prog 23=some aIW:=by kernel_rfl
def aKv:Ty:=⟨(.slice 95),1,24,[(.slice none 0 0)],true⟩
theorem aXk:bC Tryz.prog 24=some aKv:=by kernel_rfl
def aKG:Ty:=⟨(.slice 27),1,24,[(.slice none 0 0)],true⟩
theorem aSN:bC Tryz.prog 25=some aKG:=by kernel_rfl
def aZ4:jC (bC Tryz.prog 27):=by
 refine⟨?m,?h⟩
 case h=>conv=>lhs;cbv
def aF1:Ty:=aZ4.t
theorem a2A:bC Tryz.prog 27=some aF1:=aZ4.h
def aTS:jC (bC Tryz.prog 29):=by
 refine⟨?m,?h⟩
 case h=>conv=>lhs;cbv
def aLB:Ty:=aTS.t
theorem a0U:bC Tryz.prog 29=some aLB:=aTS.h
def aWE:jC (bC Tryz.prog 31):=by
 refine⟨?m,?h⟩
 case h=>conv=>lhs;cbv
def aKy:Ty:=aWE.t
theorem aWl:bC Tryz.prog 31=some aKy:=aWE.h
def aTu:jC (bC Tryz.prog 33):=by
 refine⟨?m,?h⟩
 case h=>conv=>lhs;cbv
def aKV:Ty:=aTu.t
theorem aVO:bC Tryz.prog 33=some aKV:=aTu.h
def aNv:Ty:=⟨(.int .u16),1,2,[(.int .u16 0)],true⟩
theorem aQ4:bC Tryz.prog 34=some aNv:=by kernel_rfl
def aKn:Ty:=⟨(.struct [(5,0,true),(5,1,true),(34,2,true)]),3,4,[(.int .u8 0),(.int .u8 0),(.int .u16 0)],true⟩
theorem a04:bC Tryz.prog 36=some aKn:=by kernel_rfl
def aFW:Ty:=⟨(.array 14 36),42,56,(List.replicate 14 ([(.int .u8 0),(.int .u8 0),(.int .u16 0)]:List Value)).flatten,true⟩
theorem aRH:bC Tryz.prog 37=some aFW:=by kernel_rfl
def aKD:Ty:=⟨(.array 12 37),504,672,(List.replicate 168 ([(.int .u8 0),(.int .u8 0),(.int .u16 0)]:List Value)).flatten,true⟩
theorem aSB:bC Tryz.prog 38=some aKD:=by kernel_rfl
def aZE:jC (bC Tryz.prog 39):=by
 refine⟨?m,?h⟩
 case h=>conv=>lhs;cbv
def aFP:Ty:=aZE.t
theorem aPG:bC Tryz.prog 39=some aFP:=aZE.h
def aFL:Ty:=⟨(.array 4 39),60,80,(List.replicate 20 ([(.int .u8 0),(.int .u8 0),(.int .u16 0)]:List Value)).flatten,true⟩
theorem aZc:bC Tryz.prog 40=some aFL:=by kernel_rfl
def aFA:Ty:=⟨(.struct [(9,0,true),(38,1,true),(40,505,true)]),565,768,[(.string ⟨#[]⟩)]++(List.replicate 188 ([(.int .u8 0),(.int .u8 0),(.int .u16 0)]:List Value)).flatten,true⟩
theorem aRL:bC Tryz.prog 42=some aFA:=by kernel_rfl
def aFQ:Ty:=⟨(.struct [(29,0,true),(31,10,true),(33,15,true),(42,20,true)]),585,960,[(.string ⟨#[]⟩),(.slice none 0 0),(.slice none 0 0),(.slice none 0 0),(.int .u8 0),(.int .u8 0),(.int .u8 0),(.int .u8 0),(.int .u8 0),(.slice none 0 0),(.int .i64 0),(.int .i64 0),(.int .i64 0),(.int .i64 0),(.int .i64 0),(.int .u8 0),(.int .u8 0),(.int .u8 0),(.int .i64 0),(.bool false),(.string ⟨#[]⟩)]++(List.replicate 188 ([(.int .u8 0),(.int .u8 0),(.int .u16 0)]:List Value)).flatten,true⟩
theorem a0L:bC Tryz.prog 44=some aFQ:=by kernel_rfl
def aMU:Ty:=⟨(.slice 99),1,24,[(.slice none 0 0)],true⟩
theorem aYj:bC Tryz.prog 45=some aMU:=by kernel_rfl
def aNb:Ty:=⟨(.slice 123),1,24,[(.slice none 0 0)],true⟩
theorem aSb:bC Tryz.prog 46=some aNb:=by kernel_rfl
def aNQ:Ty:=⟨(.int .u64),1,8,[(.int .u64 0)],true⟩
theorem aYO:bC Tryz.prog 47=some aNQ:=by kernel_rfl
def aFZ:Ty:=⟨(.int .u64),1,8,[(.int .u64 0)],true⟩
theorem aRr:bC Tryz.prog 48=some aFZ:=by kernel_rfl
def aJL:Ty:=⟨(.struct [(5,0,true),(48,1,true),(4,2,true)]),3,24,[(.int .u8 0),(.int .u64 0),(.bool false)],true⟩
theorem aPj:bC Tryz.prog 50=some aJL:=by kernel_rfl
def aJn:Ty:=⟨(.array 4 5),4,4,[(.int .u8 0),(.int .u8 0),(.int .u8 0),(.int .u8 0)],true⟩
theorem aT7:bC Tryz.prog 51=some aJn:=by kernel_rfl
def aGG:Ty:=⟨(.array 4 5),4,4,[(.int .u8 0),(.int .u8 0),(.int .u8 0),(.int .u8 0)],true⟩
theorem aWO:bC Tryz.prog 52=some aGG:=by kernel_rfl
def a13:jC (bC Tryz.prog 54):=by
 refine⟨?m,?h⟩
 case h=>conv=>lhs;cbv
def aFB:Ty:=a13.t
theorem aOW:bC Tryz.prog 54=some aFB:=a13.h
def aLW:Ty:=⟨(.array 6 54),66,240,[(.int .u8 0),(.int .u8 0),(.int .u8 0),(.int .u64 0),(.bool false),(.int .u8 0),(.int .u8 0),(.int .u8 0),(.int .u8 0),(.int .u8 0),(.int .u8 0),(.int .u8 0),(.int .u8 0),(.int .u8 0),(.int .u64 0),(.bool false),(.int .u8 0),(.int .u8 0),(.int .u8 0),(.int .u8 0),(.int .u8 0),(.int .u8 0),(.int .u8 0),(.int .u8 0),(.int .u8 0),(.int .u64 0),(.bool false),(.int .u8 0),(.int .u8 0),(.int .u8 0),(.int .u8 0),(.int .u8 0),(.int .u8 0),(.int .u8 0),(.int .u8 0),(.int .u8 0),(.int .u64 0),(.bool false),(.int .u8 0),(.int .u8 0),(.int .u8 0),(.int .u8 0),(.int .u8 0),(.int .u8 0),(.int .u8 0),(.int .u8 0),(.int .u8 0),(.int .u64 0),(.bool false),(.int .u8 0),(.int .u8 0),(.int .u8 0),(.int .u8 0),(.int .u8 0),(.int .u8 0),(.int .u8 0),(.int .u8 0),(.int .u8 0),(.int .u64 0),(.bool false)]++(List.replicate 6 ([(.int .u8 0)]:List Value)).flatten,true⟩
theorem aTI:bC Tryz.prog 55=some aLW:=by kernel_rfl
def OJ:Ty:=⟨(.slice 60),1,24,[(.slice none 0 0)],true⟩
theorem aUE:bC Tryz.prog 56=some OJ:=by kernel_rfl
def aWL:jC (bC Tryz.prog 58):=by
 refine⟨?m,?h⟩
 case h=>conv=>lhs;cbv
def aHD:Ty:=aWL.t
theorem aT6:bC Tryz.prog 58=some aHD:=aWL.h
def aTF:jC (bC Tryz.prog 60):=by
 refine⟨?m,?h⟩
 case h=>conv=>lhs;cbv
def XW:Ty:=aTF.t
theorem aXs:bC Tryz.prog 60=some XW:=aTF.h
def aQv:jC (bC Tryz.prog 62):=by
 refine⟨?m,?h⟩
 case h=>conv=>lhs;cbv
def aJ8:Ty:=aQv.t
theorem aYD:bC Tryz.prog 62=some aJ8:=aQv.h
def aMz:Ty:=⟨.func,1,8,[.nilFunc],true⟩
theorem a08:bC Tryz.prog 63=some aMz:=by kernel_rfl
def aGx:Ty:=⟨(.slice 62),1,24,[(.slice none 0 0)],true⟩
theorem aTX:bC Tryz.prog 65=some aGx:=by kernel_rfl
def aG8:Ty:=⟨(.slice 211),1,24,[(.slice none 0 0)],true⟩
theorem aY0:bC Tryz.prog 68=some aG8:=by kernel_rfl
def aL5:Ty:=⟨(.int .i64),1,8,[(.int .i64 0)],true⟩
theorem aPY:bC Tryz.prog 69=some aL5:=by kernel_rfl
def aKz:Ty:=⟨(.slice 3),1,24,[(.slice none 0 0)],true⟩
theorem aWc:bC Tryz.prog 75=some aKz:=by kernel_rfl
def aRf:jC (bC Tryz.prog 77):=by
 refine⟨?m,?h⟩
 case h=>conv=>lhs;cbv
def aJ3:Ty:=aRf.t
theorem aQa:bC Tryz.prog 77=some aJ3:=aRf.h
def aNR:Ty:=⟨(.struct [(4,0,true),(5,1,true)]),2,2,[(.bool false),(.int .u8 0)],true⟩
theorem aTZ:bC Tryz.prog 91=some aNR:=by kernel_rfl
def aRT:jC (bC Tryz.prog 93):=by
 refine⟨?m,?h⟩
 case h=>conv=>lhs;cbv
def aL7:Ty:=aRT.t
theorem a1L:bC Tryz.prog 93=some aL7:=aRT.h
def aKw:Ty:=⟨(.slice 93),1,24,[(.slice none 0 0)],true⟩
theorem a3f:bC Tryz.prog 95=some aKw:=by kernel_rfl
def aVm:jC (bC Tryz.prog 96):=by
 refine⟨?m,?h⟩
 case h=>conv=>lhs;cbv
def aK1:Ty:=aVm.t
theorem a0S:bC Tryz.prog 96=some aK1:=aVm.h
def OP:Ty:=⟨(.slice 189),1,24,[(.slice none 0 0)],true⟩
theorem aSx:bC Tryz.prog 97=some OP:=by kernel_rfl
def a2O:jC (bC Tryz.prog 99):=by
 refine⟨?m,?h⟩
 case h=>conv=>lhs;cbv
def aGh:Ty:=a2O.t
theorem a2x:bC Tryz.prog 99=some aGh:=a2O.h
def VG:Ty:=⟨(.ptr 127),1,8,[(.pointer none)],true⟩
theorem aNA:bC Tryz.prog 101=some VG:=by kernel_rfl
def T3:Ty:=⟨.func,1,8,[.nilFunc],true⟩
theorem aIK:bC Tryz.prog 107=some T3:=by kernel_rfl
def T8:Ty:=⟨(.int .i8),1,1,[(.int .i8 0)],true⟩
theorem aJS:bC Tryz.prog 112=some T8:=by kernel_rfl
def aAN:jC (bC Tryz.prog 114):=by
 refine⟨?m,?h⟩
 case h=>conv=>lhs;cbv
def TX:Ty:=aAN.t
theorem aJX:bC Tryz.prog 114=some TX:=aAN.h
def VL:Ty:=⟨(.array 4 114),32,32,[(.int .u8 0),(.int .u8 0),(.int .i8 0),(.bool false),(.int .u8 0),(.int .u8 0),(.int .u8 0),(.int .u8 0),(.int .u8 0),(.int .u8 0),(.int .i8 0),(.bool false),(.int .u8 0),(.int .u8 0),(.int .u8 0),(.int .u8 0),(.int .u8 0),(.int .u8 0),(.int .i8 0),(.bool false),(.int .u8 0),(.int .u8 0),(.int .u8 0),(.int .u8 0),(.int .u8 0),(.int .u8 0),(.int .i8 0),(.bool false)]++(List.replicate 4 ([(.int .u8 0)]:List Value)).flatten,true⟩
theorem aMW:bC Tryz.prog 115=some VL:=by kernel_rfl
def WT:Ty:=⟨(.array 4 115),128,128,[(.int .u8 0),(.int .u8 0),(.int .i8 0),(.bool false),(.int .u8 0),(.int .u8 0),(.int .u8 0),(.int .u8 0),(.int .u8 0),(.int .u8 0),(.int .i8 0),(.bool false),(.int .u8 0),(.int .u8 0),(.int .u8 0),(.int .u8 0),(.int .u8 0),(.int .u8 0),(.int .i8 0),(.bool false),(.int .u8 0),(.int .u8 0),(.int .u8 0),(.int .u8 0),(.int .u8 0),(.int .u8 0),(.int .i8 0),(.bool false),(.int .u8 0),(.int .u8 0),(.int .u8 0),(.int .u8 0),(.int .u8 0),(.int .u8 0),(.int .i8 0),(.bool false),(.int .u8 0),(.int .u8 0),(.int .u8 0),(.int .u8 0),(.int .u8 0),(.int .u8 0),(.int .i8 0),(.bool false),(.int .u8 0),(.int .u8 0),(.int .u8 0),(.int .u8 0),(.int .u8 0),(.int .u8 0),(.int .i8 0),(.bool false),(.int .u8 0),(.int .u8 0),(.int .u8 0),(.int .u8 0),(.int .u8 0),(.int .u8 0),(.int .i8 0),(.bool false),(.int .u8 0),(.int .u8 0),(.int .u8 0),(.int .u8 0),(.int .u8 0),(.int .u8 0),(.int .i8 0),(.bool false),(.int .u8 0),(.int .u8 0),(.int .u8 0),(.int .u8 0),(.int .u8 0),(.int .u8 0),(.int .i8 0),(.bool false),(.int .u8 0),(.int .u8 0),(.int .u8 0),(.int .u8 0),(.int .u8 0),(.int .u8 0),(.int .i8 0),(.bool false),(.int .u8 0),(.int .u8 0),(.int .u8 0),(.int .u8 0),(.int .u8 0),(.int .u8 0),(.int .i8 0),(.bool false),(.int .u8 0),(.int .u8 0),(.int .u8 0),(.int .u8 0),(.int .u8 0),(.int .u8 0),(.int .i8 0),(.bool false),(.int .u8 0),(.int .u8 0),(.int .u8 0),(.int .u8 0),(.int .u8 0),(.int .u8 0),(.int .i8 0),(.bool false),(.int .u8 0),(.int .u8 0),(.int .u8 0),(.int .u8 0),(.int .u8 0),(.int .u8 0),(.int .i8 0),(.bool false),(.int .u8 0),(.int .u8 0),(.int .u8 0),(.int .u8 0),(.int .u8 0),(.int .u8 0),(.int .i8 0),(.bool false)]++(List.replicate 4 ([(.int .u8 0)]:List Value)).flatten,true⟩
theorem aKC:bC Tryz.prog 116=some WT:=by kernel_rfl
def aAL:jC (bC Tryz.prog 118):=by
 refine⟨?m,?h⟩
 case h=>conv=>lhs;cbv
def SF:Ty:=aAL.t
theorem aIa:bC Tryz.prog 118=some SF:=aAL.h
def aEX:jC (bC Tryz.prog 119):=by
 refine⟨?m,?h⟩
 case h=>conv=>lhs;cbv
def UR:Ty:=aEX.t
theorem aJf:bC Tryz.prog 119=some UR:=aEX.h
def aCQ:jC (bC Tryz.prog 121):=by
 refine⟨?m,?h⟩
 case h=>conv=>lhs;cbv
def Q5:Ty:=aCQ.t
theorem aIB:bC Tryz.prog 121=some Q5:=aCQ.h
def T0:Ty:=⟨(.struct [(116,0,true),(119,128,true),(121,156,true)]),160,232,[(.int .u8 0),(.int .u8 0),(.int .i8 0),(.bool false),(.int .u8 0),(.int .u8 0),(.int .u8 0),(.int .u8 0),(.int .u8 0),(.int .u8 0),(.int .i8 0),(.bool false),(.int .u8 0),(.int .u8 0),(.int .u8 0),(.int .u8 0),(.int .u8 0),(.int .u8 0),(.int .i8 0),(.bool false),(.int .u8 0),(.int .u8 0),(.int .u8 0),(.int .u8 0),(.int .u8 0),(.int .u8 0),(.int .i8 0),(.bool false),(.int .u8 0),(.int .u8 0),(.int .u8 0),(.int .u8 0),(.int .u8 0),(.int .u8 0),(.int .i8 0),(.bool false),(.int .u8 0),(.int .u8 0),(.int .u8 0),(.int .u8 0),(.int .u8 0),(.int .u8 0),(.int .i8 0),(.bool false),(.int .u8 0),(.int .u8 0),(.int .u8 0),(.int .u8 0),(.int .u8 0),(.int .u8 0),(.int .i8 0),(.bool false),(.int .u8 0),(.int .u8 0),(.int .u8 0),(.int .u8 0),(.int .u8 0),(.int .u8 0),(.int .i8 0),(.bool false),(.int .u8 0),(.int .u8 0),(.int .u8 0),(.int .u8 0),(.int .u8 0),(.int .u8 0),(.int .i8 0),(.bool false),(.int .u8 0),(.int .u8 0),(.int .u8 0),(.int .u8 0),(.int .u8 0),(.int .u8 0),(.int .i8 0),(.bool false),(.int .u8 0),(.int .u8 0),(.int .u8 0),(.int .u8 0),(.int .u8 0),(.int .u8 0),(.int .i8 0),(.bool false),(.int .u8 0),(.int .u8 0),(.int .u8 0),(.int .u8 0),(.int .u8 0),(.int .u8 0),(.int .i8 0),(.bool false),(.int .u8 0),(.int .u8 0),(.int .u8 0),(.int .u8 0),(.int .u8 0),(.int .u8 0),(.int .i8 0),(.bool false),(.int .u8 0),(.int .u8 0),(.int .u8 0),(.int .u8 0),(.int .u8 0),(.int .u8 0),(.int .i8 0),(.bool false),(.int .u8 0),(.int .u8 0),(.int .u8 0),(.int .u8 0),(.int .u8 0),(.int .u8 0),(.int .i8 0),(.bool false),(.int .u8 0),(.int .u8 0),(.int .u8 0),(.int .u8 0),(.int .u8 0),(.int .u8 0),(.int .i8 0),(.bool false),(.int .u8 0),(.int .u8 0),(.int .u8 0),(.int .u8 0),(.int .u8 0),(.int .i64 0),(.int .u8 0),(.int .u8 0),(.int .u8 0),(.int .u8 0),(.int .u8 0),(.int .u8 0),(.int .i64 0),(.int .u8 0),(.int .u8 0),(.int .u8 0),(.int .u8 0),(.int .u8 0),(.int .u8 0),(.int .i64 0),(.int .u8 0),(.int .u8 0),(.int .u8 0),(.int .u8 0),(.int .u8 0),(.int .u8 0),(.int .i64 0)]++(List.replicate 9 ([(.int .u8 0)]:List Value)).flatten,true⟩
theorem aH8:bC Tryz.prog 123=some T0:=by kernel_rfl
def VC:Ty:=⟨(.map 5 107),1,8,[(.map none)],true⟩
theorem aI8:bC Tryz.prog 125=some VC:=by kernel_rfl
def aBj:jC (bC Tryz.prog 127):=by
 refine⟨?m,?h⟩
 case h=>conv=>lhs;cbv
def WL:Ty:=aBj.t
theorem aH9:bC Tryz.prog 127=some WL:=aBj.h
def VK:Ty:=⟨.func,1,8,[.nilFunc],true⟩
theorem aNH:bC Tryz.prog 130=some VK:=by kernel_rfl
def VU:Ty:=⟨(.ptr 134),1,8,[(.pointer none)],true⟩
theorem aKm:bC Tryz.prog 131=some VU:=by kernel_rfl
def UW:Ty:=⟨(.struct [(77,0,true),(44,72,true)]),657,1328,[(.slice none 0 0),(.slice none 0 0),(.slice none 0 0),(.int .u8 0),(.int .u8 0),(.int .u8 0),(.int .u64 0),(.bool false),(.int .u8 0),(.int .u8 0),(.int .u8 0),(.int .u8 0),(.int .u8 0),(.int .u8 0),(.int .u8 0),(.int .u8 0),(.int .u8 0),(.int .u64 0),(.bool false),(.int .u8 0),(.int .u8 0),(.int .u8 0),(.int .u8 0),(.int .u8 0),(.int .u8 0),(.int .u8 0),(.int .u8 0),(.int .u8 0),(.int .u64 0),(.bool false),(.int .u8 0),(.int .u8 0),(.int .u8 0),(.int .u8 0),(.int .u8 0),(.int .u8 0),(.int .u8 0),(.int .u8 0),(.int .u8 0),(.int .u64 0),(.bool false),(.int .u8 0),(.int .u8 0),(.int .u8 0),(.int .u8 0),(.int .u8 0),(.int .u8 0),(.int .u8 0),(.int .u8 0),(.int .u8 0),(.int .u64 0),(.bool false),(.int .u8 0),(.int .u8 0),(.int .u8 0),(.int .u8 0),(.int .u8 0),(.int .u8 0),(.int .u8 0),(.int .u8 0),(.int .u8 0),(.int .u64 0),(.bool false),(.int .u8 0),(.int .u8 0),(.int .u8 0),(.int .u8 0),(.int .u8 0),(.int .u8 0),(.slice none 0 0),(.slice none 0 0),(.int .i64 0),(.string ⟨#[]⟩),(.slice none 0 0),(.slice none 0 0),(.slice none 0 0),(.int .u8 0),(.int .u8 0),(.int .u8 0),(.int .u8 0),(.int .u8 0),(.slice none 0 0),(.int .i64 0),(.int .i64 0),(.int .i64 0),(.int .i64 0),(.int .i64 0),(.int .u8 0),(.int .u8 0),(.int .u8 0),(.int .i64 0),(.bool false),(.string ⟨#[]⟩)]++(List.replicate 188 ([(.int .u8 0),(.int .u8 0),(.int .u16 0)]:List Value)).flatten,true⟩
theorem aH6:bC Tryz.prog 134=some UW:=by kernel_rfl
def VV:Ty:=⟨(.ptr 146),1,8,[(.pointer none)],true⟩
theorem aHj:bC Tryz.prog 144=some VV:=by kernel_rfl
def RP:Ty:=⟨(.struct [(144,0,true),(23,1,true)]),2,32,[(.pointer none),(.slice none 0 0)],true⟩
theorem aKX:bC Tryz.prog 146=some RP:=by kernel_rfl
def UX:Ty:=⟨.func,1,8,[.nilFunc],true⟩
theorem aIb:bC Tryz.prog 148=some UX:=by kernel_rfl
def SQ:Ty:=⟨(.array 3 5),3,3,[(.int .u8 0),(.int .u8 0),(.int .u8 0)],true⟩
theorem aKx:bC Tryz.prog 163=some SQ:=by kernel_rfl
def WP:Ty:=⟨(.slice 171),1,24,[(.slice none 0 0)],true⟩
theorem aIk:bC Tryz.prog 167=some WP:=by kernel_rfl
def V3:Ty:=⟨(.ptr 29),1,8,[(.pointer none)],true⟩
theorem aG3:bC Tryz.prog 169=some V3:=by kernel_rfl
def VI:Ty:=⟨(.struct [(69,0,true),(63,1,true)]),2,16,[(.int .i64 0),.nilFunc],true⟩
theorem aNz:bC Tryz.prog 171=some VI:=by kernel_rfl
def RJ:Ty:=⟨(.array 5 3),5,40,[(.int .i64 0),(.int .i64 0),(.int .i64 0),(.int .i64 0),(.int .i64 0)],true⟩
theorem aJk:bC Tryz.prog 172=some RJ:=by kernel_rfl
def VJ:Ty:=⟨(.int .i64),1,8,[(.int .i64 0)],true⟩
theorem aFt:bC Tryz.prog 177=some VJ:=by kernel_rfl
def aBa:jC (bC Tryz.prog 179):=by
 refine⟨?m,?h⟩
 case h=>conv=>lhs;cbv
def TD:Ty:=aBa.t
theorem aH7:bC Tryz.prog 179=some TD:=aBa.h
def aAV:jC (bC Tryz.prog 181):=by
 refine⟨?m,?h⟩
 case h=>conv=>lhs;cbv
def VE:Ty:=aAV.t
theorem aG5:bC Tryz.prog 181=some VE:=aAV.h
def U8:Ty:=⟨(.ptr 42),1,8,[(.pointer none)],true⟩
theorem aGR:bC Tryz.prog 185=some U8:=by kernel_rfl
def CF:Ty:=⟨(.struct [(5,0,true),(5,1,true)]),2,2,[(.int .u8 0),(.int .u8 0)],true⟩
theorem aJ6:bC Tryz.prog 189=some CF:=by kernel_rfl
def SN:Ty:=⟨(.struct [(31,0,true)]),5,40,[(.int .i64 0),(.int .i64 0),(.int .i64 0),(.int .i64 0),(.int .i64 0)],true⟩
theorem aHG:bC Tryz.prog 199=some SN:=by kernel_rfl
def aEZ:jC (bC Tryz.prog 211):=by
 refine⟨?m,?h⟩
 case h=>conv=>lhs;cbv
def RU:Ty:=aEZ.t
theorem aGH:bC Tryz.prog 211=some RU:=aEZ.h
def R3:Ty:=⟨.func,1,8,[.nilFunc],true⟩
theorem aHw:bC Tryz.prog 213=some R3:=by kernel_rfl
def U9:Ty:=⟨(.map 5 148),1,8,[(.map none)],true⟩
theorem aL3:bC Tryz.prog 215=some U9:=by kernel_rfl
def VP:Ty:=⟨(.ptr 5),1,8,[(.pointer none)],true⟩
theorem aMN:bC Tryz.prog 217=some VP:=by kernel_rfl
def SE:Ty:=⟨.func,1,8,[.nilFunc],true⟩
theorem aL2:bC Tryz.prog 240=some SE:=by kernel_rfl
def V7:Ty:=⟨.func,1,8,[.nilFunc],true⟩
theorem aIn:bC Tryz.prog 253=some V7:=by kernel_rfl
def S9:Ty:=⟨.func,1,8,[.nilFunc],true⟩
theorem aF2:bC Tryz.prog 254=some S9:=by kernel_rfl
def RH:Ty:=⟨(.slice 65),1,24,[(.slice none 0 0)],true⟩
theorem aMY:bC Tryz.prog 261=some RH:=by kernel_rfl
def aCt:jC (bC Tryz.prog 265):=by
 refine⟨?m,?h⟩
 case h=>conv=>lhs;cbv
def R4:Ty:=aCt.t
theorem aMw:bC Tryz.prog 265=some R4:=aCt.h
def aDJ:jC (bC Tryz.prog 282):=by
 refine⟨?m,?h⟩
 case h=>conv=>lhs;cbv
def VZ:Ty:=aDJ.t
theorem aKs:bC Tryz.prog 282=some VZ:=aDJ.h
def WV:Ty:=⟨.func,1,8,[.nilFunc],true⟩
theorem aJR:bC Tryz.prog 283=some WV:=by kernel_rfl
def Q1:Ty:=⟨(.ptr 282),1,8,[(.pointer none)],true⟩
theorem aNP:bC Tryz.prog 285=some Q1:=by kernel_rfl
def US:Ty:=⟨(.map 5 283),1,8,[(.map none)],true⟩
theorem aJu:bC Tryz.prog 286=some US:=by kernel_rfl
def RM:Ty:=⟨.func,1,8,[.nilFunc],true⟩
theorem aNB:bC Tryz.prog 296=some RM:=by kernel_rfl
def RG:Ty:=⟨(.ptr 309),1,8,[(.pointer none)],true⟩
theorem aHp:bC Tryz.prog 299=some RG:=by kernel_rfl
def aEg:jC (bC Tryz.prog 309):=by
 refine⟨?m,?h⟩
 case h=>conv=>lhs;cbv
def Q3:Ty:=aEg.t
theorem aNq:bC Tryz.prog 309=some Q3:=aEg.h
def aAF:jC (bC Tryz.prog 316):=by
 refine⟨?m,?h⟩
 case h=>conv=>lhs;cbv
def WD:Ty:=aAF.t
theorem aFO:bC Tryz.prog 316=some WD:=aAF.h
def SA:Ty:=⟨(.map 163 3),1,8,[(.map none)],true⟩
theorem aIN:bC Tryz.prog 318=some SA:=by kernel_rfl
def V4:Ty:=⟨(.slice 325),1,24,[(.slice none 0 0)],true⟩
theorem aIw:bC Tryz.prog 320=some V4:=by kernel_rfl
def ST:Ty:=⟨(.int .u8),1,1,[(.int .u8 0)],true⟩
theorem aMZ:bC Tryz.prog 323=some ST:=by kernel_rfl
def V6:Ty:=⟨(.struct [(323,0,true),(9,1,true),(3,2,true)]),3,32,[(.int .u8 0),(.string ⟨#[]⟩),(.int .i64 0)],true⟩
theorem aGk:bC Tryz.prog 325=some V6:=by kernel_rfl
def aAx:jC (bC Tryz.prog 328):=by
 refine⟨?m,?h⟩
 case h=>conv=>lhs;cbv
def TJ:Ty:=aAx.t
theorem aFS:bC Tryz.prog 328=some TJ:=aAx.h
def TA:Ty:=⟨(.slice 63),1,24,[(.slice none 0 0)],true⟩
theorem aFG:bC Tryz.prog 329=some TA:=by kernel_rfl
def V5:Ty:=⟨(.ptr 27),1,8,[(.pointer none)],true⟩
theorem aMc:bC Tryz.prog 332=some V5:=by kernel_rfl
def aEJ:jC (bC Tryz.prog 335):=by
 refine⟨?m,?h⟩
 case h=>conv=>lhs;cbv
def RW:Ty:=aEJ.t
theorem aMl:bC Tryz.prog 335=some RW:=aEJ.h
def WB:Ty:=⟨.func,1,8,[.nilFunc],true⟩
theorem aGW:bC Tryz.prog 340=some WB:=by kernel_rfl
def Q6:Ty:=⟨(.struct [(31,0,true)]),5,40,[(.int .i64 0),(.int .i64 0),(.int .i64 0),(.int .i64 0),(.int .i64 0)],true⟩
theorem aKi:bC Tryz.prog 342=some Q6:=by kernel_rfl
def TI:Ty:=⟨(.ptr 123),1,8,[(.pointer none)],true⟩
theorem aGJ:bC Tryz.prog 344=some TI:=by kernel_rfl
def UK:Ty:=⟨.func,1,8,[.nilFunc],true⟩
theorem aGE:bC Tryz.prog 351=some UK:=by kernel_rfl
def aCj:jC (bC Tryz.prog 352):=by
 refine⟨?m,?h⟩
 case h=>conv=>lhs;cbv
def SW:Ty:=aCj.t
theorem aIR:bC Tryz.prog 352=some SW:=aCj.h
def TL:Ty:=⟨(.slice 56),1,24,[(.slice none 0 0)],true⟩
theorem aMk:bC Tryz.prog 355=some TL:=by kernel_rfl
def RN:Ty:=⟨(.ptr 316),1,8,[(.pointer none)],true⟩
theorem aH2:bC Tryz.prog 358=some RN:=by kernel_rfl
def VY:Ty:=⟨.func,1,8,[.nilFunc],true⟩
theorem aHh:bC Tryz.prog 359=some VY:=by kernel_rfl
def aCM:jC (bC Tryz.prog 360):=by
 refine⟨?m,?h⟩
 case h=>conv=>lhs;cbv
def VS:Ty:=aCM.t
theorem aGQ:bC Tryz.prog 360=some VS:=aCM.h
def RE:Ty:=⟨(.struct [(9,0,true),(3,1,true)]),2,24,[(.string ⟨#[]⟩),(.int .i64 0)],true⟩
theorem aKR:bC Tryz.prog 362=some RE:=by kernel_rfl
def TM:Ty:=⟨(.struct [(362,0,true),(4,2,true)]),3,32,[(.string ⟨#[]⟩),(.int .i64 0),(.bool false)],true⟩
theorem aNx:bC Tryz.prog 364=some TM:=by kernel_rfl
def RV:Ty:=⟨(.ptr 328),1,8,[(.pointer none)],true⟩
theorem aIQ:bC Tryz.prog 369=some RV:=by kernel_rfl
def VH:Ty:=⟨.func,1,8,[.nilFunc],true⟩
theorem aMI:bC Tryz.prog 371=some VH:=by kernel_rfl
def T6:Ty:=⟨.func,1,8,[.nilFunc],true⟩
theorem aKF:bC Tryz.prog 372=some T6:=by kernel_rfl
def SD:Ty:=⟨(.struct [(371,0,true),(371,1,true),(372,2,true)]),3,24,[.nilFunc,.nilFunc,.nilFunc],true⟩
theorem aIT:bC Tryz.prog 374=some SD:=by kernel_rfl
def SC:Ty:=⟨(.map 5 374),1,8,[(.map none)],true⟩
theorem aIU:bC Tryz.prog 376=some SC:=by kernel_rfl
def aAq:jC (bC Tryz.prog 393):=by
 refine⟨?m,?h⟩
 case h=>conv=>lhs;cbv
def RX:Ty:=aAq.t
theorem aIq:bC Tryz.prog 393=some RX:=aAq.h
def R5:Ty:=⟨(.ptr 364),1,8,[(.pointer none)],true⟩
theorem aIi:bC Tryz.prog 400=some R5:=by kernel_rfl
def aD5:jC (bC Tryz.prog 405):=by
 refine⟨?m,?h⟩
 case h=>conv=>lhs;cbv
def TU:Ty:=aD5.t
theorem aIs:bC Tryz.prog 405=some TU:=aD5.h
def RO:Ty:=⟨.func,1,8,[.nilFunc],true⟩
theorem aLS:bC Tryz.prog 428=some RO:=by kernel_rfl
def SL:Ty:=⟨(.map 5 428),1,8,[(.map none)],true⟩
theorem aHy:bC Tryz.prog 430=some SL:=by kernel_rfl
def UH:Ty:=⟨(.struct [(50,0,true)]),3,24,[(.int .u8 0),(.int .u64 0),(.bool false)],true⟩
theorem aGq:bC Tryz.prog 433=some UH:=by kernel_rfl
def UZ:Ty:=⟨(.ptr 362),1,8,[(.pointer none)],true⟩
theorem aMO:bC Tryz.prog 444=some UZ:=by kernel_rfl
def SJ:Ty:=⟨(.array 64 5),64,64,(List.replicate 64 ([(.int .u8 0)]:List Value)).flatten,true⟩
theorem aNp:bC Tryz.prog 447=some SJ:=by kernel_rfl
attribute [go_sem] aZ4 aTS aWE aTu aZE a13 aWL aTF aQv aRf aRT aVm a2O aAN aAL aEX aCQ aBj aBa aAV aEZ aCt aDJ aEg aAF aAx aEJ aCj aCM aAq aD5
def aC:List Nat:=[29,30,31,36,38,40,41,51,52,53,58,59,60,61,62,63,66,67,69,71,72,74,78,79,83,91,93,102,103,104,106,107,109,113,116,117,121,124,127,129,130,132,133,134,136,137,139,140,142,145,146,148,161,162,163,164,165,167,168,169,170,171,172,173,175,180,182,183,184,185,186,189,190,197,198,203,204,218,221,224,228,229,230,231,234,235,236,237,238,239,240,241,242,243,244,245,246,247,248,249,254,255,256,257,258,259,260,262,263,264,285,286,288,289,290,291,292,293,294,295,296,297,298,302,303,304,305,308,309,312,315,316,331,332,339,340,341,342,344,349,353,354,355,356]
def kpL(a b:List Nat)(l:List (List Nat))(i:Nat):List Nat:=bif Nat.beq i 1000000 then a else bif Nat.beq i 2000000 then b else l.getD i []
structure Got(a:M) where
 m:M
 h:a=m
def aF(f:Func):Code:=f.body.getD .skip
theorem fk{f:FuncId}{F:Func}{nt:Nat}{kp:Nat→List Nat}{m:M}{res:List ResultVar}{md:MQ}(h:Tryz.prog.funcs[f]?=some F)(g:cmp nt kp (aF F)=m)(h1:F.body=some (aF F):=by rfl)(h2:F.ntmps=nt:=by rfl)(h3:F.results.toList=res:=by kernel_rfl)(h4:(F.name== "runtime.NumGoroutine")=false:=by kernel_rfl):aQ Tryz.prog f ⟨nt,res,m,md⟩:=⟨F,_,kp,h,h1,h2,h3,h4,g⟩
abbrev UL(a b:M):Prop:=∀{C:Ctx} {k:List It} {st:St} {Q:Ex→St→Prop},bG C (.code a::k) st Q↔bG C (.code b::k) st Q
theorem ul{a:M}{C:Ctx}{k:List It}{st:St}{Q:Ex→St→Prop}:bG C (.code a::k) st Q↔bG C (.code a::k) st Q:=Iff.rfl
def aU:M→List M
 |.seq a b=>aU a++aU b
 |.cond _ a b=>aU a++aU b
 |.block _ a=>aU a
 |.loop a=>a::aU a
 |.rf _ _ _ _ a b=>(a::aU a)++(b::aU b)
 |_=>[]
def g4:Got (cmp 114 (kpL aC [] [[0,1],[1,2],[],[1,2],[],[1,2],[1,2,5],[1,2,5,6,7],[5,7],[1,2,5,6],[1,2,5,6,8],[1,2,5,6,8],[1,2,5,6,8],[1,2,5,6,8,9],[1,2,5,6,8,9,10],[],[1,2,5,6,8,9,10],[],[1,2,5,6,8,9],[]]) (aF Tryz.f4)):=by
 refine⟨?m,?h⟩
 case h=>conv=>lhs;reduce
def m4:M:=g4.m
def fn4:MFn:=⟨114,[.tmp 4],m4,.shut⟩
theorem a59:aQ Tryz.prog 4 fn4:=fk Tryz.func4 g4.h
def aET:Got ((aU m4).getD 0 .bad):=by
 refine⟨?m,?h⟩
 case h=>conv=>lhs;cbv
def aOG:M:=aET.m
theorem a6v:UL aOG aET.m:=ul
def g8:Got (cmp 36 (kpL aC [5,6] [[0,1],[2,3,4],[],[2,3,4],[4,5],[4,5,6],[5,6,19],[5,6,7],[6,7,9],[6,7],[6,7,26],[6,7,26],[6,7,26],[6]]) (aF Tryz.f8)):=by
 refine⟨?m,?h⟩
 case h=>conv=>lhs;reduce
def m8:M:=g8.m
def fn8:MFn:=⟨36,[.tmp 4],m8,.norm⟩
theorem a4S:aQ Tryz.prog 8 fn8:=fk Tryz.func8 g8.h
def aA1:Got ((aU m8).getD 0 .bad):=by
 refine⟨?m,?h⟩
 case h=>conv=>lhs;cbv
def C1:M:=aA1.m
theorem a57:UL C1 aA1.m:=ul
def aEF:Got ((aU m8).getD 1 .bad):=by
 refine⟨?m,?h⟩
 case h=>conv=>lhs;cbv
def C3:M:=aEF.m
theorem a7x:UL C3 aEF.m:=ul
def g9:Got (cmp 61 (kpL aC [] [[0],[1],[1,3]]) (aF Tryz.f9)):=by
 refine⟨?m,?h⟩
 case h=>conv=>lhs;cbv
def m9:M:=g9.m
def fn9:MFn:=⟨61,[.tmp 2],m9,.shut⟩
theorem a5M:aQ Tryz.prog 9 fn9:=fk Tryz.func9 g9.h
def g10:Got (cmp 77 (kpL aC [] [[0,1],[2,3],[],[3],[3,39,40],[3,39,40],[3,5,39,40],[],[3,39,40],[3],[3,54,55],[3,54,55],[3,6,54,55],[3,54,55,63,64],[3,54,55,63,64],[3,8,54,55,63,64],[],[3,54,55,63,64],[3,54,55],[]]) (aF Tryz.f10)):=by
 refine⟨?m,?h⟩
 case h=>conv=>lhs;cbv
def m10:M:=g10.m
def ZU:MFn:=⟨77,[.tmp 4],m10,.shut⟩
theorem aPv:aQ Tryz.prog 10 ZU:=fk Tryz.func10 g10.h
def O0:Got ((aU m10).getD 0 .bad):=by
 refine⟨?m,?h⟩
 case h=>conv=>lhs;cbv
def ZS:M:=O0.m
theorem a1i:UL ZS O0.m:=ul
def NW:Got ((aU m10).getD 1 .bad):=by
 refine⟨?m,?h⟩
 case h=>conv=>lhs;cbv
def O5:M:=NW.m
theorem aYy:UL O5 NW.m:=ul
def aE1:Got ((aU m10).getD 2 .bad):=by
 refine⟨?m,?h⟩
 case h=>conv=>lhs;cbv
def a1K:M:=aE1.m
theorem bDg:UL a1K aE1.m:=ul
def g11:Got (cmp 53 (kpL aC [] [[0,1,2],[3,4,5,6],[6],[3,4,5,6],[6],[3,4,5,6],[5,6,9],[6,9,10,11],[6,11],[6,9,10],[6,9],[6],[6,9]]) (aF Tryz.f11)):=by
 refine⟨?m,?h⟩
 case h=>conv=>lhs;reduce
def m11:M:=g11.m
def aAK:MFn:=⟨53,[.cell 6 58,.tmp 7,.tmp 8],m11,.norm⟩
theorem aUe:aQ Tryz.prog 11 aAK:=fk Tryz.func11 g11.h
def g14:Got (cmp 43 (kpL aC [] [[],[],[1],[1,2],[1,2,3,4],[2,3,4,5]]) (aF Tryz.f14)):=by
 refine⟨?m,?h⟩
 case h=>conv=>lhs;cbv
def m14:M:=g14.m
def aXS:MFn:=⟨43,[.tmp 0],m14,.shut⟩
theorem a0h:aQ Tryz.prog 14 aXS:=fk Tryz.func14 g14.h
def g15:Got (cmp 7 (kpL aC [] [[0],[1]]) (aF Tryz.f15)):=by
 refine⟨?m,?h⟩
 case h=>conv=>lhs;cbv
def m15:M:=g15.m
def aDL:MFn:=⟨7,[.tmp 2],m15,.shut⟩
theorem a0M:aQ Tryz.prog 15 aDL:=fk Tryz.func15 g15.h
def g16:Got (cmp 64 (kpL aC [] [[0,1],[1,2,4],[1,2,4,5],[4,5],[1,2,4,5],[2,4,5,26,27,28],[2,4,5,26,27,28],[2,4,5,7,26,27,28],[2,4,5,7,8,26,27,28],[2,4,5,7,8,26,27,28],[2,4,5,8,9,26,27,28],[2,4,5,8,9,26,27,28],[2,4,5,8,9,26,27,28],[2,4,5,26,27,28],[4,5]]) (aF Tryz.f16)):=by
 refine⟨?m,?h⟩
 case h=>conv=>lhs;reduce
def m16:M:=g16.m
def XR:MFn:=⟨64,[.cell 4 77],m16,.norm⟩
theorem a3p:aQ Tryz.prog 16 XR:=fk Tryz.func16 g16.h
def OD:Got ((aU m16).getD 0 .bad):=by
 refine⟨?m,?h⟩
 case h=>conv=>lhs;cbv
def OL:M:=OD.m
theorem a1l:UL OL OD.m:=ul
def g17:Got (cmp 84 (kpL aC [] [[0],[1,2],[2],[1,2],[1,2,4],[1,2,4,15,16],[1,2,4,15,16],[1,2,4,15,16],[1,2,4,15,16],[1,2,4],[1,2,4,39,40],[1,2,4,39,40],[1,2,4,5,39,40],[1,2,4,5,6,39,40],[1,2,4,5,6,39,40,46,47,48],[1,2,4,5,6,39,40,46,47,48],[1,2,4,5,6,8,39,40,46,47,48],[1,2,4,5,6,8,39,40,46,47,48],[1,2,4,5,6,39,40,46,47,48],[1,2,4,5,6,39,40],[1,2,4,39,40],[2,4]]) (aF Tryz.f17)):=by
 refine⟨?m,?h⟩
 case h=>conv=>lhs;reduce
def m17:M:=g17.m
def YE:MFn:=⟨84,[.cell 2 58,.tmp 3],m17,.norm⟩
theorem aW2:aQ Tryz.prog 17 YE:=fk Tryz.func17 g17.h
def aFe:Got ((aU m17).getD 0 .bad):=by
 refine⟨?m,?h⟩
 case h=>conv=>lhs;cbv
def aQA:M:=aFe.m
theorem bCC:UL aQA aFe.m:=ul
def N0:Got ((aU m17).getD 1 .bad):=by
 refine⟨?m,?h⟩
 case h=>conv=>lhs;cbv
def aC4:M:=N0.m
theorem aPJ:UL aC4 N0.m:=ul
def PH:Got ((aU m17).getD 2 .bad):=by
 refine⟨?m,?h⟩
 case h=>conv=>lhs;cbv
def aBR:M:=PH.m
theorem a2g:UL aBR PH.m:=ul
def g18:Got (cmp 31 (kpL aC [] [[0,1],[2,3]]) (aF Tryz.f18)):=by
 refine⟨?m,?h⟩
 case h=>conv=>lhs;cbv
def m18:M:=g18.m
def aDv:MFn:=⟨31,[.tmp 4],m18,.shut⟩
theorem aYe:aQ Tryz.prog 18 aDv:=fk Tryz.func18 g18.h
def g19:Got (cmp 26 (kpL aC [] [[0,1],[0,1],[],[0,1],[0,1,5],[0,1,5],[0,1,5],[],[]]) (aF Tryz.f19)):=by
 refine⟨?m,?h⟩
 case h=>conv=>lhs;reduce
def m19:M:=g19.m
def aA6:MFn:=⟨26,[.tmp 4],m19,.shut⟩
theorem aVP:aQ Tryz.prog 19 aA6:=fk Tryz.func19 g19.h
def PX:Got ((aU m19).getD 0 .bad):=by
 refine⟨?m,?h⟩
 case h=>conv=>lhs;cbv
def aCE:M:=PX.m
theorem aXH:UL aCE PX.m:=ul
def g20:Got (cmp 18 (kpL aC [] [[0,1],[0,3],[0,3,5],[0,3,5],[0,3,5],[],[]]) (aF Tryz.f20)):=by
 refine⟨?m,?h⟩
 case h=>conv=>lhs;reduce
def m20:M:=g20.m
def aES:MFn:=⟨18,[.tmp 4],m20,.shut⟩
theorem aQM:aQ Tryz.prog 20 aES:=fk Tryz.func20 g20.h
def QD:Got ((aU m20).getD 0 .bad):=by
 refine⟨?m,?h⟩
 case h=>conv=>lhs;cbv
def aAB:M:=QD.m
theorem aQG:UL aAB QD.m:=ul
def g21:Got (cmp 27 (kpL aC [] [[0],[0],[0,4],[4,9,10,11],[4,9,10,11],[4,6,9,10,11],[4,7,8,9,10,11],[],[4,7,9,10,11],[4,9,10,11],[4,9,10,11],[4]]) (aF Tryz.f21)):=by
 refine⟨?m,?h⟩
 case h=>conv=>lhs;cbv
def m21:M:=g21.m
def a2U:MFn:=⟨27,[.tmp 2,.tmp 3],m21,.shut⟩
theorem aWp:aQ Tryz.prog 21 a2U:=fk Tryz.func21 g21.h
def aBM:Got ((aU m21).getD 0 .bad):=by
 refine⟨?m,?h⟩
 case h=>conv=>lhs;cbv
def aVg:M:=aBM.m
theorem bCf:UL aVg aBM.m:=ul
def g23:Got (cmp 39 (kpL aC [] [[0,1],[1,2,4],[1,4,5],[4,5],[1,4,5],[4,5,24,25,26],[4,5,24,25,26],[4,5,7,24,25,26],[4,5,24,25,26],[4,5]]) (aF Tryz.f23)):=by
 refine⟨?m,?h⟩
 case h=>conv=>lhs;cbv
def m23:M:=g23.m
def a3r:MFn:=⟨39,[.cell 4 77],m23,.norm⟩
theorem aTo:aQ Tryz.prog 23 a3r:=fk Tryz.func23 g23.h
def aBl:Got ((aU m23).getD 0 .bad):=by
 refine⟨?m,?h⟩
 case h=>conv=>lhs;cbv
def aZm:M:=aBl.m
theorem bCk:UL aZm aBl.m:=ul
def g27:Got (cmp 45 (kpL aC [] [[0,1],[1,2],[1,2,5],[1,2,5,6],[1,2,5,6],[1,2,5,6],[1,2,5]]) (aF Tryz.f27)):=by
 refine⟨?m,?h⟩
 case h=>conv=>lhs;cbv
def m27:M:=g27.m
def aE4:MFn:=⟨45,[.tmp 4],m27,.shut⟩
theorem aYY:aQ Tryz.prog 27 aE4:=fk Tryz.func27 g27.h
def NA:Got ((aU m27).getD 0 .bad):=by
 refine⟨?m,?h⟩
 case h=>conv=>lhs;cbv
def aDP:M:=NA.m
theorem aZz:UL aDP NA.m:=ul
def g28:Got (cmp 12 (kpL aC [] [[0,1],[2,3]]) (aF Tryz.f28)):=by
 refine⟨?m,?h⟩
 case h=>conv=>lhs;cbv
def m28:M:=g28.m
def aBh:MFn:=⟨12,[.tmp 4],m28,.shut⟩
theorem aPV:aQ Tryz.prog 28 aBh:=fk Tryz.func28 g28.h
def g29:Got (cmp 26 (kpL aC [] [[0,1],[2,3],[5],[5]]) (aF Tryz.f29)):=by
 refine⟨?m,?h⟩
 case h=>conv=>lhs;cbv
def m29:M:=g29.m
def Z6:MFn:=⟨26,[.tmp 4],m29,.pass⟩
theorem aPH:aQ Tryz.prog 29 Z6:=fk Tryz.func29 g29.h
def g30:Got (cmp 4 (kpL aC [] [[0],[1]]) (aF Tryz.f30)):=by
 refine⟨?m,?h⟩
 case h=>conv=>lhs;cbv
def m30:M:=g30.m
def aF0:MFn:=⟨4,[.tmp 2],m30,.pass⟩
theorem a2l:aQ Tryz.prog 30 aF0:=fk Tryz.func30 g30.h
def g31:Got (cmp 29 (kpL aC [] [[0,1],[0,3],[],[0,3],[3,6,7],[],[3,6]]) (aF Tryz.f31)):=by
 refine⟨?m,?h⟩
 case h=>conv=>lhs;reduce
def m31:M:=g31.m
def A7:MFn:=⟨29,[.tmp 4,.tmp 5],m31,.pass⟩
theorem aVH:aQ Tryz.prog 31 A7:=fk Tryz.func31 g31.h
def g32:Got (cmp 15 (kpL aC [] [[0,1,2],[0,1,2]]) (aF Tryz.f32)):=by
 refine⟨?m,?h⟩
 case h=>conv=>lhs;cbv
def m32:M:=g32.m
def aCx:MFn:=⟨15,[.tmp 6],m32,.shut⟩
theorem aTC:aQ Tryz.prog 32 aCx:=fk Tryz.func32 g32.h
def g33:Got (cmp 18 (kpL aC [] [[0],[1],[5,6,7],[5,6,7],[4,5,6,7],[4],[5,6,7],[]]) (aF Tryz.f33)):=by
 refine⟨?m,?h⟩
 case h=>conv=>lhs;cbv
def m33:M:=g33.m
def aCJ:MFn:=⟨18,[.tmp 2],m33,.shut⟩
theorem aQP:aQ Tryz.prog 33 aCJ:=fk Tryz.func33 g33.h
def aD4:Got ((aU m33).getD 0 .bad):=by
 refine⟨?m,?h⟩
 case h=>conv=>lhs;cbv
def aQL:M:=aD4.m
theorem bC4:UL aQL aD4.m:=ul
def g34:Got (cmp 30 (kpL aC [] [[0],[1],[15,16],[15,16],[3,4,15,16],[],[15,16],[]]) (aF Tryz.f34)):=by
 refine⟨?m,?h⟩
 case h=>conv=>lhs;cbv
def m34:M:=g34.m
def X6:MFn:=⟨30,[.tmp 2],m34,.shut⟩
theorem aXU:aQ Tryz.prog 34 X6:=fk Tryz.func34 g34.h
def aBC:Got ((aU m34).getD 0 .bad):=by
 refine⟨?m,?h⟩
 case h=>conv=>lhs;cbv
def aP9:M:=aBC.m
theorem bCH:UL aP9 aBC.m:=ul
def g35:Got (cmp 18 (kpL aC [1,2] [[0],[1,2],[2],[1,2],[1,2,9],[1,2,3],[2],[2]]) (aF Tryz.f35)):=by
 refine⟨?m,?h⟩
 case h=>conv=>lhs;reduce
def m35:M:=g35.m
def aCO:MFn:=⟨18,[.cell 2 4],m35,.shut⟩
theorem aX3:aQ Tryz.prog 35 aCO:=fk Tryz.func35 g35.h
def QC:Got ((aU m35).getD 0 .bad):=by
 refine⟨?m,?h⟩
 case h=>conv=>lhs;cbv
def kN:M:=QC.m
theorem aSD:UL kN QC.m:=ul
def NX:Got ((aU m35).getD 1 .bad):=by
 refine⟨?m,?h⟩
 case h=>conv=>lhs;cbv
def kM:M:=NX.m
theorem a1E:UL kM NX.m:=ul
def g36:Got (cmp 36 (kpL aC [] [[0],[1,2],[1,2],[1,2,10,11],[1,2,10,11],[1,2,3,10,11],[1,2,10,11],[1,2],[1,2],[1,2]]) (aF Tryz.f36)):=by
 refine⟨?m,?h⟩
 case h=>conv=>lhs;reduce
def m36:M:=g36.m
def aFb:MFn:=⟨36,[.cell 2 58],m36,.pass⟩
theorem aYn:aQ Tryz.prog 36 aFb:=fk Tryz.func36 g36.h
def NT:Got ((aU m36).getD 0 .bad):=by
 refine⟨?m,?h⟩
 case h=>conv=>lhs;cbv
def aB9:M:=NT.m
theorem aQF:UL aB9 NT.m:=ul
def g37:Got (cmp 21 (kpL aC [] [[0],[0,2],[2,3]]) (aF Tryz.f37)):=by
 refine⟨?m,?h⟩
 case h=>conv=>lhs;cbv
def m37:M:=g37.m
def aSL:MFn:=⟨21,[.cell 2 44],m37,.shut⟩
theorem aPw:aQ Tryz.prog 37 aSL:=fk Tryz.func37 g37.h
def g38:Got (cmp 43 (kpL aC [] [[0,1,2],[1,3,5],[],[1,3,5],[1,7],[7,8],[],[7,8],[7,8,9],[7,8],[7,8,9],[7,8,9,10],[7,8,9,10],[7,8,9,10],[7,8,9,10,11],[7,10,11],[8]]) (aF Tryz.f38)):=by
 refine⟨?m,?h⟩
 case h=>conv=>lhs;reduce
def m38:M:=g38.m
def aQu:MFn:=⟨43,[.tmp 6],m38,.pass⟩
theorem aTA:aQ Tryz.prog 38 aQu:=fk Tryz.func38 g38.h
def aCu:Got ((aU m38).getD 0 .bad):=by
 refine⟨?m,?h⟩
 case h=>conv=>lhs;cbv
def aWW:M:=aCu.m
theorem bC7:UL aWW aCu.m:=ul
def aCV:Got ((aU m38).getD 1 .bad):=by
 refine⟨?m,?h⟩
 case h=>conv=>lhs;cbv
def a2h:M:=aCV.m
theorem bDa:UL a2h aCV.m:=ul
def g39:Got (cmp 17 (kpL aC [] [[0],[1]]) (aF Tryz.f39)):=by
 refine⟨?m,?h⟩
 case h=>conv=>lhs;cbv
def m39:M:=g39.m
def aU6:MFn:=⟨17,[.tmp 2],m39,.shut⟩
theorem aYh:aQ Tryz.prog 39 aU6:=fk Tryz.func39 g39.h
def g40:Got (cmp 27 (kpL aC [] [[0],[1],[1,3],[3,4,5],[3],[3],[3,4],[3]]) (aF Tryz.f40)):=by
 refine⟨?m,?h⟩
 case h=>conv=>lhs;cbv
def m40:M:=g40.m
def aEU:MFn:=⟨27,[.tmp 2],m40,.pass⟩
theorem aUz:aQ Tryz.prog 40 aEU:=fk Tryz.func40 g40.h
def g41:Got (cmp 58 (kpL aC [] [[0,1],[0,3],[0,3,5,6,7],[0,5,6,7],[0,7],[],[0,5,6],[0,6],[]]) (aF Tryz.f41)):=by
 refine⟨?m,?h⟩
 case h=>conv=>lhs;reduce
def m41:M:=g41.m
def aCw:MFn:=⟨58,[.tmp 4],m41,.pass⟩
theorem a1y:aQ Tryz.prog 41 aCw:=fk Tryz.func41 g41.h
def g42:Got (cmp 2 (kpL aC [] [[],[0]]) (aF Tryz.f42)):=by
 refine⟨?m,?h⟩
 case h=>conv=>lhs;cbv
def m42:M:=g42.m
def aBE:MFn:=⟨2,[.cell 0 99],m42,.norm⟩
theorem aRM:aQ Tryz.prog 42 aBE:=fk Tryz.func42 g42.h
def g43:Got (cmp 17 (kpL aC [] [[0,1],[1,2,4],[4,5,6],[4],[4,5]]) (aF Tryz.f43)):=by
 refine⟨?m,?h⟩
 case h=>conv=>lhs;cbv
def m43:M:=g43.m
def aEI:MFn:=⟨17,[.cell 4 123],m43,.shut⟩
theorem aQq:aQ Tryz.prog 43 aEI:=fk Tryz.func43 g43.h
def g44:Got (cmp 16 (kpL aC [] [[0],[1],[3,4],[],[3]]) (aF Tryz.f44)):=by
 refine⟨?m,?h⟩
 case h=>conv=>lhs;cbv
def m44:M:=g44.m
def aC7:MFn:=⟨16,[.tmp 2],m44,.shut⟩
theorem aPp:aQ Tryz.prog 44 aC7:=fk Tryz.func44 g44.h
def g45:Got (cmp 25 (kpL aC [7] [[0,1],[1,2,4],[1,4,5,6],[],[1,4,5],[1,4,5,7],[7,19],[7,8],[7]]) (aF Tryz.f45)):=by
 refine⟨?m,?h⟩
 case h=>conv=>lhs;reduce
def m45:M:=g45.m
def ZT:MFn:=⟨25,[.tmp 4],m45,.shut⟩
theorem aRZ:aQ Tryz.prog 45 ZT:=fk Tryz.func45 g45.h
def aEw:Got ((aU m45).getD 0 .bad):=by
 refine⟨?m,?h⟩
 case h=>conv=>lhs;cbv
def aPu:M:=aEw.m
theorem bDb:UL aPu aEw.m:=ul
def aDu:Got ((aU m45).getD 1 .bad):=by
 refine⟨?m,?h⟩
 case h=>conv=>lhs;cbv
def aXA:M:=aDu.m
theorem bCm:UL aXA aDu.m:=ul
def g46:Got (cmp 23 (kpL aC [] [[0,1,2,3],[2,3,4,5,8],[2,3,5,8,9,10],[2,3,5,8,9],[5,8]]) (aF Tryz.f46)):=by
 refine⟨?m,?h⟩
 case h=>conv=>lhs;cbv
def m46:M:=g46.m
def aDZ:MFn:=⟨23,[.cell 8 52],m46,.shut⟩
theorem a2j:aQ Tryz.prog 46 aDZ:=fk Tryz.func46 g46.h
def g47:Got (cmp 12 (kpL aC [] [[0,1,2],[0,1,5,6]]) (aF Tryz.f47)):=by
 refine⟨?m,?h⟩
 case h=>conv=>lhs;reduce
def m47:M:=g47.m
def aCK:MFn:=⟨12,[.cell 6 54],m47,.shut⟩
theorem aZx:aQ Tryz.prog 47 aCK:=fk Tryz.func47 g47.h
def g48:Got (cmp 31 (kpL aC [] [[0,1],[2,3]]) (aF Tryz.f48)):=by
 refine⟨?m,?h⟩
 case h=>conv=>lhs;cbv
def m48:M:=g48.m
def aCk:MFn:=⟨31,[.tmp 4],m48,.shut⟩
theorem aXD:aQ Tryz.prog 48 aCk:=fk Tryz.func48 g48.h
def g49:Got (cmp 26 (kpL aC [] [[0,1],[0,1],[],[0,1],[0,1,5],[0,1,5],[0,1,5],[],[]]) (aF Tryz.f49)):=by
 refine⟨?m,?h⟩
 case h=>conv=>lhs;reduce
def m49:M:=g49.m
def aCd:MFn:=⟨26,[.tmp 4],m49,.shut⟩
theorem aZK:aQ Tryz.prog 49 aCd:=fk Tryz.func49 g49.h
def O4:Got ((aU m49).getD 0 .bad):=by
 refine⟨?m,?h⟩
 case h=>conv=>lhs;cbv
def aEn:M:=O4.m
theorem aZV:UL aEn O4.m:=ul
def g50:Got (cmp 30 (kpL aC [] [[0],[1],[1,4],[1,4,5],[1,6],[1,7,8],[],[1,7]]) (aF Tryz.f50)):=by
 refine⟨?m,?h⟩
 case h=>conv=>lhs;cbv
def m50:M:=g50.m
def aXE:MFn:=⟨30,[.tmp 2,.tmp 3],m50,.shut⟩
theorem aSX:aQ Tryz.prog 50 aXE:=fk Tryz.func50 g50.h
def g51:Got (cmp 19 (kpL aC [] [[0,1],[0,1],[0,1],[1]]) (aF Tryz.f51)):=by
 refine⟨?m,?h⟩
 case h=>conv=>lhs;cbv
def m51:M:=g51.m
def aTq:MFn:=⟨19,[.tmp 4,.tmp 5],m51,.pass⟩
theorem a2m:aQ Tryz.prog 51 aTq:=fk Tryz.func51 g51.h
def g52:Got (cmp 17 (kpL aC [] [[0,1],[0,1],[0,1],[]]) (aF Tryz.f52)):=by
 refine⟨?m,?h⟩
 case h=>conv=>lhs;cbv
def m52:M:=g52.m
def a2d:MFn:=⟨17,[.tmp 4],m52,.pass⟩
theorem aQO:aQ Tryz.prog 52 a2d:=fk Tryz.func52 g52.h
def g53:Got (cmp 14 (kpL aC [] [[0],[0]]) (aF Tryz.f53)):=by
 refine⟨?m,?h⟩
 case h=>conv=>lhs;reduce
def m53:M:=g53.m
def aUU:MFn:=⟨14,[.tmp 2],m53,.pass⟩
theorem aUt:aQ Tryz.prog 53 aUU:=fk Tryz.func53 g53.h
def g56:Got (cmp 54 (kpL aC [] [[0],[0,2],[2],[0,2],[0,2,4],[0,2,4,5],[0,2,4,5],[0,2,4,5],[0,2,4,5,6],[0,2,4,5,6],[0,2,4,5,6],[0,2,4],[0,2,4,7],[0,2,4,7],[0,2,4,7],[0,2,4,7,8],[0,2,4,7,8],[0,2,4,7,8],[0,2,4],[0,2,4],[0,2,4],[2,4]]) (aF Tryz.f56)):=by
 refine⟨?m,?h⟩
 case h=>conv=>lhs;cbv
def m56:M:=g56.m
def aSd:MFn:=⟨54,[.cell 2 42,.tmp 3],m56,.shut⟩
theorem aUQ:aQ Tryz.prog 56 aSd:=fk Tryz.func56 g56.h
def Z0:Got ((aU m56).getD 0 .bad):=by
 refine⟨?m,?h⟩
 case h=>conv=>lhs;cbv
def aV2:M:=Z0.m
theorem bB5:UL aV2 Z0.m:=ul
def aDU:Got ((aU m56).getD 1 .bad):=by
 refine⟨?m,?h⟩
 case h=>conv=>lhs;cbv
def aUq:M:=aDU.m
theorem bCO:UL aUq aDU.m:=ul
def aEK:Got ((aU m56).getD 2 .bad):=by
 refine⟨?m,?h⟩
 case h=>conv=>lhs;cbv
def aZ6:M:=aEK.m
theorem bDh:UL aZ6 aEK.m:=ul
def aD8:Got ((aU m56).getD 3 .bad):=by
 refine⟨?m,?h⟩
 case h=>conv=>lhs;cbv
def aZj:M:=aD8.m
theorem bDf:UL aZj aD8.m:=ul
def g57:Got (cmp 41 (kpL aC [] [[0,1],[1,2],[1,5],[1,5,6],[1,5,6],[1,5,6],[1,5]]) (aF Tryz.f57)):=by
 refine⟨?m,?h⟩
 case h=>conv=>lhs;reduce
def m57:M:=g57.m
def aBQ:MFn:=⟨41,[.tmp 4],m57,.shut⟩
theorem a1B:aQ Tryz.prog 57 aBQ:=fk Tryz.func57 g57.h
def P4:Got ((aU m57).getD 0 .bad):=by
 refine⟨?m,?h⟩
 case h=>conv=>lhs;cbv
def aBf:M:=P4.m
theorem aUD:UL aBf P4.m:=ul
def g58:Got (cmp 46 (kpL aC [] [[0,1],[2,3],[2,6],[2,6,7],[2,6,7,28],[2,6,7],[2,6,7,28],[2,6,7],[2,6,7],[]]) (aF Tryz.f58)):=by
 refine⟨?m,?h⟩
 case h=>conv=>lhs;reduce
def m58:M:=g58.m
def aDn:MFn:=⟨46,[.tmp 4,.tmp 5],m58,.pass⟩
theorem aUJ:aQ Tryz.prog 58 aDn:=fk Tryz.func58 g58.h
def g59:Got (cmp 36 (kpL aC [] [[0,1],[0,3],[0,6],[0,6,7],[0,6,7,8,9],[],[0,6,7,8],[0,6,7,8]]) (aF Tryz.f59)):=by
 refine⟨?m,?h⟩
 case h=>conv=>lhs;cbv
def m59:M:=g59.m
def YS:MFn:=⟨36,[.tmp 4,.tmp 5],m59,.pass⟩
theorem aSf:aQ Tryz.prog 59 YS:=fk Tryz.func59 g59.h
def g60:Got (cmp 47 (kpL aC [] [[0,1],[0,3],[0,3,6],[0,6,7,8,9,10]]) (aF Tryz.f60)):=by
 refine⟨?m,?h⟩
 case h=>conv=>lhs;reduce
def m60:M:=g60.m
def aEh:MFn:=⟨47,[.tmp 4,.tmp 5],m60,.pass⟩
theorem a0t:aQ Tryz.prog 60 aEh:=fk Tryz.func60 g60.h
def g61:Got (cmp 76 (kpL aC [] [[0,1],[0,3],[0,3,6],[],[0,3,6],[0,3,6,8],[],[0,3,6],[0,6,9,10,11]]) (aF Tryz.f61)):=by
 refine⟨?m,?h⟩
 case h=>conv=>lhs;reduce
def m61:M:=g61.m
def aAM:MFn:=⟨76,[.tmp 4,.tmp 5],m61,.pass⟩
theorem aXt:aQ Tryz.prog 61 aAM:=fk Tryz.func61 g61.h
def g62:Got (cmp 144 (kpL aC [] [[0,1],[2,3],[2,6],[2,6,7],[2,6,7,8],[],[2,6,7,8],[],[2,6,7,8],[2,6,9,11],[11],[2,6,9],[2,6,9],[2,6,9,12],[2,9,12,13,14,15,16],[2,9,16,17],[2,6,9],[2,6,9],[2,6,9,18,19,20],[]]) (aF Tryz.f62)):=by
 refine⟨?m,?h⟩
 case h=>conv=>lhs;reduce
def m62:M:=g62.m
def FH:MFn:=⟨144,[.tmp 4,.tmp 5],m62,.pass⟩
theorem aQQ:aQ Tryz.prog 62 FH:=fk Tryz.func62 g62.h
def g63:Got (cmp 96 (kpL aC [] [[0,1],[0,1,3],[0,1,3,20,21],[0,1,3,20,21],[0,1,3,5,20,21],[0,1,3,5,20,21,24,25],[0,1,3,5,20,21,24,25],[0,1,3,5,6,20,21,24,25],[0,1,3,5,20,21,24,25],[0,1,3,20,21],[0,1,3],[0,1,36,37],[0,1,36,37],[0,1,7,36,37],[0,1,7,36,37,46,47],[0,1,7,36,37,46,47],[0,1,7,8,36,37,46,47],[0,1,7,36,37,46,47],[0,1,36,37],[0,1],[0,1,9],[0,1,9,69,70,71],[0,1,9,69,70,71],[0,1,9,11,69,70,71],[0,1,9,12,69,70,71],[0,1,9,12,69,70,71],[0,1,9,12,69,70,71],[0,1,9,69,70,71]]) (aF Tryz.f63)):=by
 refine⟨?m,?h⟩
 case h=>conv=>lhs;reduce
def m63:M:=g63.m
def aEG:MFn:=⟨96,[],m63,.pass⟩
theorem a1o:aQ Tryz.prog 63 aEG:=fk Tryz.func63 g63.h
def aC6:Got ((aU m63).getD 0 .bad):=by
 refine⟨?m,?h⟩
 case h=>conv=>lhs;cbv
def aOX:M:=aC6.m
theorem bCW:UL aOX aC6.m:=ul
def PD:Got ((aU m63).getD 1 .bad):=by
 refine⟨?m,?h⟩
 case h=>conv=>lhs;cbv
def aEW:M:=PD.m
theorem aS6:UL aEW PD.m:=ul
def M4:Got ((aU m63).getD 2 .bad):=by
 refine⟨?m,?h⟩
 case h=>conv=>lhs;cbv
def aCI:M:=M4.m
theorem aQV:UL aCI M4.m:=ul
def NQ:Got ((aU m63).getD 3 .bad):=by
 refine⟨?m,?h⟩
 case h=>conv=>lhs;cbv
def aBn:M:=NQ.m
theorem aQX:UL aBn NQ.m:=ul
def N9:Got ((aU m63).getD 4 .bad):=by
 refine⟨?m,?h⟩
 case h=>conv=>lhs;cbv
def aDK:M:=N9.m
theorem a1w:UL aDK N9.m:=ul
def g64:Got (cmp 19 (kpL aC [5] [[0,1],[0,1,4],[],[0,1,4],[0,1,4,5],[5,13],[5,6],[5]]) (aF Tryz.f64)):=by
 refine⟨?m,?h⟩
 case h=>conv=>lhs;reduce
def m64:M:=g64.m
def aBw:MFn:=⟨19,[.tmp 4],m64,.norm⟩
theorem aXq:aQ Tryz.prog 64 aBw:=fk Tryz.func64 g64.h
def PJ:Got ((aU m64).getD 0 .bad):=by
 refine⟨?m,?h⟩
 case h=>conv=>lhs;cbv
def EQ:M:=PJ.m
theorem aYL:UL EQ PJ.m:=ul
def OS:Got ((aU m64).getD 1 .bad):=by
 refine⟨?m,?h⟩
 case h=>conv=>lhs;cbv
def FU:M:=OS.m
theorem a23:UL FU OS.m:=ul
def g65:Got (cmp 9 (kpL aC [] [[0,1],[0,3]]) (aF Tryz.f65)):=by
 refine⟨?m,?h⟩
 case h=>conv=>lhs;cbv
def m65:M:=g65.m
def YM:MFn:=⟨9,[.tmp 4],m65,.shut⟩
theorem aO1:aQ Tryz.prog 65 YM:=fk Tryz.func65 g65.h
def g66:Got (cmp 59 (kpL aC [] [[0,1],[0,3],[0,3,5],[0,3,5,23],[0,3,5,23],[0,3,5,23],[3,5],[0,3,5,23],[0,3,5],[3,23],[3],[]]) (aF Tryz.f66)):=by
 refine⟨?m,?h⟩
 case h=>conv=>lhs;reduce
def m66:M:=g66.m
def aBL:MFn:=⟨59,[.tmp 4],m66,.pass⟩
theorem aTJ:aQ Tryz.prog 66 aBL:=fk Tryz.func66 g66.h
def g67:Got (cmp 18 (kpL aC [] [[0],[1],[1,3]]) (aF Tryz.f67)):=by
 refine⟨?m,?h⟩
 case h=>conv=>lhs;cbv
def m67:M:=g67.m
def aLL:MFn:=⟨18,[.tmp 2],m67,.pass⟩
theorem aYu:aQ Tryz.prog 67 aLL:=fk Tryz.func67 g67.h
def g68:Got (cmp 32 (kpL aC [] [[0],[0],[],[0],[0,14,15],[0,14,15],[0,3,14,15],[0,4,14,15],[],[0,14,15],[]]) (aF Tryz.f68)):=by
 refine⟨?m,?h⟩
 case h=>conv=>lhs;cbv
def m68:M:=g68.m
def aEc:MFn:=⟨32,[.tmp 2],m68,.shut⟩
theorem aVe:aQ Tryz.prog 68 aEc:=fk Tryz.func68 g68.h
def QV:Got ((aU m68).getD 0 .bad):=by
 refine⟨?m,?h⟩
 case h=>conv=>lhs;cbv
def QW:M:=QV.m
theorem aXK:UL QW QV.m:=ul
def g69:Got (cmp 1 (kpL aC [] [[],[]]) (aF Tryz.f69)):=by
 refine⟨?m,?h⟩
 case h=>conv=>lhs;cbv
def m69:M:=g69.m
def aGZ:MFn:=⟨1,[.tmp 0],m69,.pass⟩
theorem a03:aQ Tryz.prog 69 aGZ:=fk Tryz.func69 g69.h
def g70:Got (cmp 42 (kpL aC [] [[0,1],[2,3],[2,3,6],[2,3,6],[2,3,6],[3],[2,3,6],[2,3],[3],[3],[]]) (aF Tryz.f70)):=by
 refine⟨?m,?h⟩
 case h=>conv=>lhs;cbv
def m70:M:=g70.m
def aDE:MFn:=⟨42,[.tmp 4],m70,.shut⟩
theorem a06:aQ Tryz.prog 70 aDE:=fk Tryz.func70 g70.h
def g71:Got (cmp 27 (kpL aC [] [[0,1],[1,2],[1,2],[1,2]]) (aF Tryz.f71)):=by
 refine⟨?m,?h⟩
 case h=>conv=>lhs;reduce
def m71:M:=g71.m
def aML:MFn:=⟨27,[.tmp 4],m71,.pass⟩
theorem aPg:aQ Tryz.prog 71 aML:=fk Tryz.func71 g71.h
def g72:Got (cmp 8 (kpL aC [] [[0],[0],[],[0]]) (aF Tryz.f72)):=by
 refine⟨?m,?h⟩
 case h=>conv=>lhs;cbv
def m72:M:=g72.m
def aAX:MFn:=⟨8,[.tmp 2],m72,.pass⟩
theorem aQb:aQ Tryz.prog 72 aAX:=fk Tryz.func72 g72.h
def g73:Got (cmp 8 (kpL aC [] [[0],[0],[],[0]]) (aF Tryz.f73)):=by
 refine⟨?m,?h⟩
 case h=>conv=>lhs;cbv
def m73:M:=g73.m
def BE:MFn:=⟨8,[.tmp 2],m73,.norm⟩
theorem aPT:aQ Tryz.prog 73 BE:=fk Tryz.func73 g73.h
def g74:Got (cmp 8 (kpL aC [] [[0],[0],[],[0]]) (aF Tryz.f74)):=by
 refine⟨?m,?h⟩
 case h=>conv=>lhs;cbv
def m74:M:=g74.m
def ZZ:MFn:=⟨8,[.tmp 2],m74,.pass⟩
theorem aTb:aQ Tryz.prog 74 ZZ:=fk Tryz.func74 g74.h
def g75:Got (cmp 8 (kpL aC [] [[0],[0],[],[0]]) (aF Tryz.f75)):=by
 refine⟨?m,?h⟩
 case h=>conv=>lhs;cbv
def m75:M:=g75.m
def A9:MFn:=⟨8,[.tmp 2],m75,.norm⟩
theorem aSu:aQ Tryz.prog 75 A9:=fk Tryz.func75 g75.h
def g76:Got (cmp 20 (kpL aC [] [[0,1,2],[0,1,2],[0,2,5]]) (aF Tryz.f76)):=by
 refine⟨?m,?h⟩
 case h=>conv=>lhs;cbv
def m76:M:=g76.m
def aYG:MFn:=⟨20,[.tmp 4],m76,.shut⟩
theorem aUk:aQ Tryz.prog 76 aYG:=fk Tryz.func76 g76.h
def g78:Got (cmp 8 (kpL aC [] [[0],[0],[],[0]]) (aF Tryz.f78)):=by
 refine⟨?m,?h⟩
 case h=>conv=>lhs;cbv
def m78:M:=g78.m
def aPC:MFn:=⟨8,[.tmp 2],m78,.pass⟩
theorem a1c:aQ Tryz.prog 78 aPC:=fk Tryz.func78 g78.h
def g79:Got (cmp 36 (kpL aC [] [[0],[0],[0,3],[0,3,9,10,11],[0,3,9,10,11],[0,3,5,9,10,11],[0,3,9,10,11],[0,3,9,10,11],[0,3,9,10,11],[0,3],[0,6],[6,25,26,27],[6,25,26,27],[6,8,25,26,27],[6,25,26,27],[6]]) (aF Tryz.f79)):=by
 refine⟨?m,?h⟩
 case h=>conv=>lhs;cbv
def m79:M:=g79.m
def a0r:MFn:=⟨36,[.tmp 2],m79,.pass⟩
theorem aRN:aQ Tryz.prog 79 a0r:=fk Tryz.func79 g79.h
def aCp:Got ((aU m79).getD 0 .bad):=by
 refine⟨?m,?h⟩
 case h=>conv=>lhs;cbv
def aZd:M:=aCp.m
theorem bC3:UL aZd aCp.m:=ul
def Z3:Got ((aU m79).getD 1 .bad):=by
 refine⟨?m,?h⟩
 case h=>conv=>lhs;cbv
def a2L:M:=Z3.m
theorem bCQ:UL a2L Z3.m:=ul
def g80:Got (cmp 32 (kpL aC [] [[0,1],[1,2,4],[4],[1,2,4],[2,4,6],[4],[2,4,6],[2,4,6,7],[4,6,7,22,23],[4,6,7,22,23],[4,6,7,8,22,23],[4,6,7,22,23],[4,7]]) (aF Tryz.f80)):=by
 refine⟨?m,?h⟩
 case h=>conv=>lhs;cbv
def m80:M:=g80.m
def aC5:MFn:=⟨32,[.cell 4 123,.tmp 5],m80,.shut⟩
theorem aVj:aQ Tryz.prog 80 aC5:=fk Tryz.func80 g80.h
def aA2:Got ((aU m80).getD 0 .bad):=by
 refine⟨?m,?h⟩
 case h=>conv=>lhs;cbv
def a0J:M:=aA2.m
theorem bCy:UL a0J aA2.m:=ul
def g81:Got (cmp 10 (kpL aC [] [[0],[1,2],[2],[1,2]]) (aF Tryz.f81)):=by
 refine⟨?m,?h⟩
 case h=>conv=>lhs;cbv
def m81:M:=g81.m
def aAo:MFn:=⟨10,[.cell 2 199,.tmp 3],m81,.shut⟩
theorem a1a:aQ Tryz.prog 81 aAo:=fk Tryz.func81 g81.h
def g82:Got (cmp 11 (kpL aC [] [[0,1],[1,2]]) (aF Tryz.f82)):=by
 refine⟨?m,?h⟩
 case h=>conv=>lhs;cbv
def m82:M:=g82.m
def aCN:MFn:=⟨11,[.tmp 4],m82,.shut⟩
theorem aZ7:aQ Tryz.prog 82 aCN:=fk Tryz.func82 g82.h
def g83:Got (cmp 6 (kpL aC [] [[0,1],[2,3]]) (aF Tryz.f83)):=by
 refine⟨?m,?h⟩
 case h=>conv=>lhs;cbv
def m83:M:=g83.m
def aKA:MFn:=⟨6,[.tmp 4],m83,.pass⟩
theorem a0d:aQ Tryz.prog 83 aKA:=fk Tryz.func83 g83.h
def g84:Got (cmp 11 (kpL aC [] [[0,1],[1,2]]) (aF Tryz.f84)):=by
 refine⟨?m,?h⟩
 case h=>conv=>lhs;cbv
def m84:M:=g84.m
def aEb:MFn:=⟨11,[.tmp 4],m84,.shut⟩
theorem aTD:aQ Tryz.prog 84 aEb:=fk Tryz.func84 g84.h
def g85:Got (cmp 16 (kpL aC [] [[0,1],[0,1,4],[4],[0,4]]) (aF Tryz.f85)):=by
 refine⟨?m,?h⟩
 case h=>conv=>lhs;cbv
def m85:M:=g85.m
def aBo:MFn:=⟨16,[.cell 4 50],m85,.shut⟩
theorem aPx:aQ Tryz.prog 85 aBo:=fk Tryz.func85 g85.h
def g86:Got (cmp 27 (kpL aC [] [[0,1],[0,1],[],[0,1],[0,1,5],[0,1,5],[0,1,5],[],[]]) (aF Tryz.f86)):=by
 refine⟨?m,?h⟩
 case h=>conv=>lhs;reduce
def m86:M:=g86.m
def aEV:MFn:=⟨27,[.tmp 4],m86,.shut⟩
theorem aVU:aQ Tryz.prog 86 aEV:=fk Tryz.func86 g86.h
def PN:Got ((aU m86).getD 0 .bad):=by
 refine⟨?m,?h⟩
 case h=>conv=>lhs;cbv
def aC9:M:=PN.m
theorem aV6:UL aC9 PN.m:=ul
def g87:Got (cmp 26 (kpL aC [] [[0,1],[0,1],[],[0,1],[0,1,5],[0,1,5],[0,1,5],[],[]]) (aF Tryz.f87)):=by
 refine⟨?m,?h⟩
 case h=>conv=>lhs;reduce
def m87:M:=g87.m
def aEl:MFn:=⟨26,[.tmp 4],m87,.shut⟩
theorem aXo:aQ Tryz.prog 87 aEl:=fk Tryz.func87 g87.h
def QT:Got ((aU m87).getD 0 .bad):=by
 refine⟨?m,?h⟩
 case h=>conv=>lhs;cbv
def aEN:M:=QT.m
theorem aPX:UL aEN QT.m:=ul
def g88:Got (cmp 26 (kpL aC [] [[0,1],[0,1],[],[0,1],[0,1,5],[0,1,5],[0,1,5],[],[]]) (aF Tryz.f88)):=by
 refine⟨?m,?h⟩
 case h=>conv=>lhs;reduce
def m88:M:=g88.m
def ZW:MFn:=⟨26,[.tmp 4],m88,.shut⟩
theorem aV3:aQ Tryz.prog 88 ZW:=fk Tryz.func88 g88.h
def M7:Got ((aU m88).getD 0 .bad):=by
 refine⟨?m,?h⟩
 case h=>conv=>lhs;cbv
def aAh:M:=M7.m
theorem aXc:UL aAh M7.m:=ul
def g89:Got (cmp 6 (kpL aC [] [[0],[0]]) (aF Tryz.f89)):=by
 refine⟨?m,?h⟩
 case h=>conv=>lhs;cbv
def m89:M:=g89.m
def a2M:MFn:=⟨6,[.tmp 2],m89,.shut⟩
theorem aZp:aQ Tryz.prog 89 a2M:=fk Tryz.func89 g89.h
def g91:Got (cmp 21 (kpL aC [] [[0,1],[1,2]]) (aF Tryz.f91)):=by
 refine⟨?m,?h⟩
 case h=>conv=>lhs;reduce
def m91:M:=g91.m
def a2q:MFn:=⟨21,[.tmp 3,.tmp 4],m91,.pass⟩
theorem aQt:aQ Tryz.prog 91 a2q:=fk Tryz.func91 g91.h
def g92:Got (cmp 12 (kpL aC [] [[0],[0],[3],[],[3],[],[3],[],[3],[],[]]) (aF Tryz.f92)):=by
 refine⟨?m,?h⟩
 case h=>conv=>lhs;cbv
def m92:M:=g92.m
def aQE:MFn:=⟨12,[.tmp 2],m92,.shut⟩
theorem a3E:aQ Tryz.prog 92 aQE:=fk Tryz.func92 g92.h
def g93:Got (cmp 24 (kpL aC [] [[0,1],[1,2]]) (aF Tryz.f93)):=by
 refine⟨?m,?h⟩
 case h=>conv=>lhs;reduce
def m93:M:=g93.m
def aWj:MFn:=⟨24,[.tmp 3,.tmp 4],m93,.pass⟩
theorem aPb:aQ Tryz.prog 93 aWj:=fk Tryz.func93 g93.h
def g94:Got (cmp 19 (kpL aC [] [[0],[1]]) (aF Tryz.f94)):=by
 refine⟨?m,?h⟩
 case h=>conv=>lhs;reduce
def m94:M:=g94.m
def aWJ:MFn:=⟨19,[.tmp 2,.tmp 3],m94,.shut⟩
theorem aUd:aQ Tryz.prog 94 aWJ:=fk Tryz.func94 g94.h
def g95:Got (cmp 88 (kpL aC [] [[0],[1],[1,3],[1,3,4],[1,3,4],[1,3,4],[1,3,4],[1,3,4],[1,3,4],[1,3,4],[1,3,4],[1,3,4],[1,3,4],[1,3,4],[1,3,4],[1,3,4],[3,4,75,76],[3,4,75,76],[3,4,6,75,76],[3,4,75,76],[3]]) (aF Tryz.f95)):=by
 refine⟨?m,?h⟩
 case h=>conv=>lhs;reduce
def m95:M:=g95.m
def aUn:MFn:=⟨88,[.tmp 2],m95,.shut⟩
theorem aWX:aQ Tryz.prog 95 aUn:=fk Tryz.func95 g95.h
def aCb:Got ((aU m95).getD 0 .bad):=by
 refine⟨?m,?h⟩
 case h=>conv=>lhs;cbv
def aVD:M:=aCb.m
theorem bB9:UL aVD aCb.m:=ul
def aUC:Got (cmp 10 (kpL aC [] [[0],[0],[3],[],[3],[],[3],[],[]]) (aF Tryz.f101)):=by
 refine⟨?m,?h⟩
 case h=>conv=>lhs;cbv
def a8I:M:=aUC.m
def aA3:MFn:=⟨10,[.tmp 2],a8I,.shut⟩
theorem aLF:aQ Tryz.prog 101 aA3:=fk Tryz.func101 aUC.h
def aWw:Got (cmp 41 (kpL aC [] [[0,1],[0,1],[0,1],[0,1],[0,1],[0,1],[0,1],[0,1],[0,1],[0,1],[0,1],[0,1],[0]]) (aF Tryz.f102)):=by
 refine⟨?m,?h⟩
 case h=>conv=>lhs;cbv
def a4o:M:=aWw.m
def aCe:MFn:=⟨41,[],a4o,.pass⟩
theorem aJI:aQ Tryz.prog 102 aCe:=fk Tryz.func102 aWw.h
def aY8:Got (cmp 95 (kpL aC [] [[0,1],[0,1,4],[0,1,4,5],[0,1,4,5],[0,1,4,5],[0,1],[0,1],[0,1],[0,1],[0,1],[0,1,6],[0,1,6],[0,1,6],[0,1,6],[0,1,6],[0,1,6],[0,1],[0],[0],[0],[0],[0],[0],[0],[0],[0],[0],[0],[0],[0,7],[0,7],[0,7],[0,7]]) (aF Tryz.f103)):=by
 refine⟨?m,?h⟩
 case h=>conv=>lhs;cbv
def aBc:M:=aY8.m
def aDO:MFn:=⟨95,[],aBc,.pass⟩
theorem aLX:aQ Tryz.prog 103 aDO:=fk Tryz.func103 aY8.h
def TZ:Got ((aU aBc).getD 0 .bad):=by
 refine⟨?m,?h⟩
 case h=>conv=>lhs;cbv
def aLd:M:=TZ.m
theorem bBN:UL aLd TZ.m:=ul
def VW:Got ((aU aBc).getD 1 .bad):=by
 refine⟨?m,?h⟩
 case h=>conv=>lhs;cbv
def aG6:M:=VW.m
theorem bBO:UL aG6 VW.m:=ul
def UP:Got ((aU aBc).getD 2 .bad):=by
 refine⟨?m,?h⟩
 case h=>conv=>lhs;cbv
def aKd:M:=UP.m
theorem bBY:UL aKd UP.m:=ul
def aPO:Got (cmp 60 (kpL aC [] [[0,1],[0,1,4],[0,1,4],[0,1,4],[0,1],[0,1],[0,1],[0,1],[0,1],[0,1],[0,1],[0,1],[0,1],[0],[0],[0],[0],[0],[0],[0]]) (aF Tryz.f104)):=by
 refine⟨?m,?h⟩
 case h=>conv=>lhs;cbv
def aPe:M:=aPO.m
def aC3:MFn:=⟨60,[],aPe,.pass⟩
theorem aKa:aQ Tryz.prog 104 aC3:=fk Tryz.func104 aPO.h
def VR:Got ((aU aPe).getD 0 .bad):=by
 refine⟨?m,?h⟩
 case h=>conv=>lhs;cbv
def aFx:M:=VR.m
theorem bBP:UL aFx VR.m:=ul
def aRs:Got (cmp 96 (kpL aC [] [[0,1,2],[0,4,5],[0,4,5,7],[0,4,5,7,8],[7,8],[0,4,5,7,8],[4,5,7,8,9],[4,5,7,8,9,32],[4,5,7,8,9,32],[8],[4,5,7,8,9,32],[7,8,9],[4,5,7,8,9,32],[4,5,8],[4,5,8],[5,8],[5,7,8,9,32],[5,8,9],[5,8,11],[8],[5,8],[5,7,8,32],[5,7,8,32],[5,7,8,32],[5,7,8],[]]) (aF Tryz.f105)):=by
 refine⟨?m,?h⟩
 case h=>conv=>lhs;cbv
def bAT:M:=aRs.m
def CE:MFn:=⟨96,[.tmp 6],bAT,.shut⟩
theorem aIg:aQ Tryz.prog 105 CE:=fk Tryz.func105 aRs.h
def aUG:Got (cmp 23 (kpL aC [] [[0,1],[0,1],[0,1],[]]) (aF Tryz.f106)):=by
 refine⟨?m,?h⟩
 case h=>conv=>lhs;cbv
def bAz:M:=aUG.m
def KF:MFn:=⟨23,[.tmp 4],bAz,.pass⟩
theorem aJe:aQ Tryz.prog 106 KF:=fk Tryz.func106 aUG.h
def aTv:Got (cmp 20 (kpL aC [] [[0,1,2]]) (aF Tryz.f107)):=by
 refine⟨?m,?h⟩
 case h=>conv=>lhs;reduce
def a5m:M:=aTv.m
def KO:MFn:=⟨20,[],a5m,.pass⟩
theorem aHP:aQ Tryz.prog 107 KO:=fk Tryz.func107 aTv.h
def a19:Got (cmp 44 (kpL aC [] [[0,1,2],[0,4,5,6],[0,4,5,6,7],[6,7],[0,5,6,7],[6,7],[6,7,8],[6,7,9,10],[6,7,9],[6,7]]) (aF Tryz.f108)):=by
 refine⟨?m,?h⟩
 case h=>conv=>lhs;cbv
def a4d:M:=a19.m
def CD:MFn:=⟨44,[.cell 6 99],a4d,.norm⟩
theorem aKZ:aQ Tryz.prog 108 CD:=fk Tryz.func108 a19.h
def aTk:Got (cmp 40 (kpL aC [] [[0,1,2,3],[4,5,6,7],[],[4,5,6,7],[4,5,7,10,11],[11],[4,5,7,10]]) (aF Tryz.f109)):=by
 refine⟨?m,?h⟩
 case h=>conv=>lhs;reduce
def a5j:M:=aTk.m
def KB:MFn:=⟨40,[.tmp 8,.tmp 9],a5j,.pass⟩
theorem aLv:aQ Tryz.prog 109 KB:=fk Tryz.func109 aTk.h
def a3v:Got (cmp 56 (kpL aC [] [[0,1],[0,3,4],[4],[0,3,4],[3,4,5],[3,4,5,19],[4,5],[3,4,5,19],[3,4,5,19],[3,4,5,19],[3,4,5],[3,4,5,19],[3,4,5],[4]]) (aF Tryz.f110)):=by
 refine⟨?m,?h⟩
 case h=>conv=>lhs;reduce
def a6Y:M:=a3v.m
def FY:MFn:=⟨56,[.cell 4 121],a6Y,.shut⟩
theorem aGS:aQ Tryz.prog 110 FY:=fk Tryz.func110 a3v.h
def aQ6:Got (cmp 28 (kpL aC [] [[0],[1,2],[2],[1,2]]) (aF Tryz.f111)):=by
 refine⟨?m,?h⟩
 case h=>conv=>lhs;reduce
def a4Q:M:=aQ6.m
def G9:MFn:=⟨28,[.cell 2 121,.tmp 3],a4Q,.shut⟩
theorem aM5:aQ Tryz.prog 111 G9:=fk Tryz.func111 aQ6.h
def a0k:Got (cmp 123 (kpL aC [] [[0,1,2,3],[2,4,5,7,8],[7,8],[2,4,5,7,8],[7,8],[2,4,5,7,8],[7,8],[2,4,5,7,8],[2,4,5,7,8,12],[2,4,5,7,8],[2,4,5,7,8,12],[2,4,5,7,8,12,13],[2,4,5,7,8,12,13,14,15],[2,4,5,7,8,12,13,14,15,16,17],[7,8,17],[2,4,5,7,8,12,13,14,15,16],[2,4,5,7,8,12,13,14,15,16,19],[2,4,5,7,8,13],[2,4,5,7,8,13,20],[2,4,5,7,8,21,22],[7,8],[2,4,5,7,8,21],[2,4,5,7,8,12,14]]) (aF Tryz.f112)):=by
 refine⟨?m,?h⟩
 case h=>conv=>lhs;cbv
def a6y:M:=a0k.m
def xA:MFn:=⟨123,[.cell 8 123,.tmp 9,.tmp 10,.tmp 11],a6y,.shut⟩
theorem aLT:aQ Tryz.prog 112 xA:=fk Tryz.func112 a0k.h
def a0A:Got (cmp 12 (kpL aC [] [[0,1,2,3,4],[5,6,7,8,9]]) (aF Tryz.f113)):=by
 refine⟨?m,?h⟩
 case h=>conv=>lhs;cbv
def a4a:M:=a0A.m
def CV:MFn:=⟨12,[.tmp 10],a4a,.pass⟩
theorem aNJ:aQ Tryz.prog 113 CV:=fk Tryz.func113 a0A.h
def aSY:Got (cmp 28 (kpL aC [] [[0,1,2],[2,3,4,6],[4,6,8,9,10],[6],[4,6,8,9]]) (aF Tryz.f114)):=by
 refine⟨?m,?h⟩
 case h=>conv=>lhs;cbv
def a84:M:=aSY.m
def JD:MFn:=⟨28,[.cell 6 114,.tmp 7],a84,.shut⟩
theorem aGA:aQ Tryz.prog 114 JD:=fk Tryz.func114 aSY.h
def aO0:Got (cmp 52 (kpL aC [] [[0,1,2,3,4],[2,4,5,6,8,10],[8,10],[2,4,5,6,8,10],[2,5,6,8,10,13],[10,15,16,18]]) (aF Tryz.f115)):=by
 refine⟨?m,?h⟩
 case h=>conv=>lhs;cbv
def a5Q:M:=aO0.m
def IW:MFn:=⟨52,[.cell 10 123,.tmp 11,.tmp 12],a5Q,.shut⟩
theorem aJ1:aQ Tryz.prog 115 IW:=fk Tryz.func115 aO0.h
def aQC:Got (cmp 19 (kpL aC [] [[0,1],[0,1],[0,1,7,8],[0,1,7,8],[0,1,5,7,8],[5],[0,1,7,8],[]]) (aF Tryz.f116)):=by
 refine⟨?m,?h⟩
 case h=>conv=>lhs;cbv
def aYz:M:=aQC.m
def HA:MFn:=⟨19,[.tmp 4],aYz,.pass⟩
theorem aGM:aQ Tryz.prog 116 HA:=fk Tryz.func116 aQC.h
def FA:Got ((aU aYz).getD 0 .bad):=by
 refine⟨?m,?h⟩
 case h=>conv=>lhs;cbv
def VD:M:=FA.m
theorem aMe:UL VD FA.m:=ul
def aXM:Got (cmp 15 (kpL aC [] [[0,1,2],[0,1,2]]) (aF Tryz.f117)):=by
 refine⟨?m,?h⟩
 case h=>conv=>lhs;reduce
def a4H:M:=aXM.m
def LD:MFn:=⟨15,[.tmp 4],a4H,.pass⟩
theorem aIF:aQ Tryz.prog 117 LD:=fk Tryz.func117 aXM.h
def aT9:Got (cmp 29 (kpL aC [] [[0,1],[0,1,5],[5],[0,1,5]]) (aF Tryz.f118)):=by
 refine⟨?m,?h⟩
 case h=>conv=>lhs;reduce
def a3J:M:=aT9.m
def GG:MFn:=⟨29,[.tmp 4,.cell 5 60,.tmp 6],a3J,.norm⟩
theorem aMA:aQ Tryz.prog 118 GG:=fk Tryz.func118 aT9.h
def aVr:Got (cmp 22 (kpL aC [] [[0,1],[1,2],[1,5,6]]) (aF Tryz.f119)):=by
 refine⟨?m,?h⟩
 case h=>conv=>lhs;cbv
def a65:M:=aVr.m
def KH:MFn:=⟨22,[.tmp 4],a65,.shut⟩
theorem aMx:aQ Tryz.prog 119 KH:=fk Tryz.func119 aVr.h
def aQc:Got (cmp 75 (kpL aC [] [[0,1,2,3,4],[2,5,6,8,9,10],[8,10],[2,5,6,8,9,10],[2,5,6,8,9,10,14],[2,5,6,8,9,10,14,16,17],[8,10],[2,5,6,8,9,10,14,16],[5,9,10,18],[5,10,18]]) (aF Tryz.f120)):=by
 refine⟨?m,?h⟩
 case h=>conv=>lhs;reduce
def a7M:M:=aQc.m
def L3:MFn:=⟨75,[.cell 10 123,.tmp 11,.tmp 12,.tmp 13],a7M,.shut⟩
theorem aNN:aQ Tryz.prog 120 L3:=fk Tryz.func120 aQc.h
def aZr:Got (cmp 10 (kpL aC [] [[0,1,2],[2]]) (aF Tryz.f121)):=by
 refine⟨?m,?h⟩
 case h=>conv=>lhs;cbv
def a6L:M:=aZr.m
def MU:MFn:=⟨10,[],a6L,.pass⟩
theorem aGD:aQ Tryz.prog 121 MU:=fk Tryz.func121 aZr.h
def a16:Got (cmp 25 (kpL aC [] [[0,1],[1,2],[1,5,6]]) (aF Tryz.f122)):=by
 refine⟨?m,?h⟩
 case h=>conv=>lhs;cbv
def a48:M:=a16.m
def J1:MFn:=⟨25,[.tmp 4],a48,.shut⟩
theorem aJN:aQ Tryz.prog 122 J1:=fk Tryz.func122 a16.h
def aWG:Got (cmp 86 (kpL aC [] [[0,1,2,3,4],[2,5,6,8,9,10],[8,10],[2,5,6,8,9,10],[2,5,6,8,9,10,30],[2,5,6,8,9,10,30],[8,9,10],[2,5,6,8,9,10],[2,5,6,8,9,10,13,14],[8,10],[2,5,6,8,9,10,13],[8,10],[2,5,6,8,9,10,13],[8,10],[2,5,6,8,9,10,13],[2,6,8,9,10,15],[2,6,8,9,10,15,16],[8,10,16],[2,6,8,9,10,15],[10,15,17],[10,15,17],[10,17]]) (aF Tryz.f123)):=by
 refine⟨?m,?h⟩
 case h=>conv=>lhs;reduce
def a4V:M:=aWG.m
def HN:MFn:=⟨86,[.cell 10 54,.tmp 11,.tmp 12],a4V,.shut⟩
theorem aMr:aQ Tryz.prog 123 HN:=fk Tryz.func123 aWG.h
def aXz:Got (cmp 20 (kpL aC [] [[0,1,2,3,4],[1,3,4]]) (aF Tryz.f124)):=by
 refine⟨?m,?h⟩
 case h=>conv=>lhs;reduce
def a8F:M:=aXz.m
def L7:MFn:=⟨20,[],a8F,.pass⟩
theorem aGj:aQ Tryz.prog 124 L7:=fk Tryz.func124 aXz.h
def a3e:Got (cmp 9 (kpL aC [] [[0,1],[0,1]]) (aF Tryz.f125)):=by
 refine⟨?m,?h⟩
 case h=>conv=>lhs;cbv
def a8w:M:=a3e.m
def FZ:MFn:=⟨9,[.tmp 4],a8w,.norm⟩
theorem aIJ:aQ Tryz.prog 125 FZ:=fk Tryz.func125 a3e.h
def aX0:Got (cmp 9 (kpL aC [] [[0],[0]]) (aF Tryz.f126)):=by
 refine⟨?m,?h⟩
 case h=>conv=>lhs;cbv
def bA4:M:=aX0.m
def KC:MFn:=⟨9,[.tmp 2],bA4,.shut⟩
theorem aHi:aQ Tryz.prog 126 KC:=fk Tryz.func126 aX0.h
def aTL:Got (cmp 6 (kpL aC [] [[0,1],[2,3]]) (aF Tryz.f127)):=by
 refine⟨?m,?h⟩
 case h=>conv=>lhs;cbv
def a9t:M:=aTL.m
def WI:MFn:=⟨6,[.tmp 4],a9t,.pass⟩
theorem aM7:aQ Tryz.prog 127 WI:=fk Tryz.func127 aTL.h
def aWz:Got (cmp 19 (kpL aC [] [[0,1],[0,3],[0,3,7,8],[0,3,7,8],[0,3,5,7,8],[5],[0,3,7,8],[]]) (aF Tryz.f128)):=by
 refine⟨?m,?h⟩
 case h=>conv=>lhs;reduce
def a0z:M:=aWz.m
def B5:MFn:=⟨19,[.tmp 4],a0z,.shut⟩
theorem aFv:aQ Tryz.prog 128 B5:=fk Tryz.func128 aWz.h
def E9:Got ((aU a0z).getD 0 .bad):=by
 refine⟨?m,?h⟩
 case h=>conv=>lhs;cbv
def TF:M:=E9.m
theorem aHt:UL TF E9.m:=ul
def aP8:Got (cmp 20 (kpL aC [] [[0,1],[0,1],[0,9,10,11],[0,9,10,11],[0,5,9,10,11],[],[0,9,10,11],[]]) (aF Tryz.f129)):=by
 refine⟨?m,?h⟩
 case h=>conv=>lhs;cbv
def aRz:M:=aP8.m
def BH:MFn:=⟨20,[.tmp 3],aRz,.pass⟩
theorem aHL:aQ Tryz.prog 129 BH:=fk Tryz.func129 aP8.h
def FP:Got ((aU aRz).getD 0 .bad):=by
 refine⟨?m,?h⟩
 case h=>conv=>lhs;cbv
def FR:M:=FP.m
theorem aHa:UL FR FP.m:=ul
def aYM:Got (cmp 7 (kpL aC [] [[0],[0]]) (aF Tryz.f130)):=by
 refine⟨?m,?h⟩
 case h=>conv=>lhs;cbv
def a7k:M:=aYM.m
def KR:MFn:=⟨7,[.tmp 1],a7k,.pass⟩
theorem aMM:aQ Tryz.prog 130 KR:=fk Tryz.func130 aYM.h
def aVY:Got (cmp 34 (kpL aC [] [[0],[0],[0,3,5]]) (aF Tryz.f131)):=by
 refine⟨?m,?h⟩
 case h=>conv=>lhs;cbv
def a41:M:=aVY.m
def HV:MFn:=⟨34,[.tmp 2],a41,.shut⟩
theorem aJb:aQ Tryz.prog 131 HV:=fk Tryz.func131 aVY.h
def aY9:Got (cmp 4 (kpL aC [] [[0],[0]]) (aF Tryz.f132)):=by
 refine⟨?m,?h⟩
 case h=>conv=>lhs;cbv
def a4F:M:=aY9.m
def JJ:MFn:=⟨4,[.tmp 1],a4F,.pass⟩
theorem aGN:aQ Tryz.prog 132 JJ:=fk Tryz.func132 aY9.h
def aXT:Got (cmp 56 (kpL aC [] [[0],[0],[],[0],[0,35,36,37],[0,35,36,37],[0,3,4,35,36,37],[],[0,35,36,37],[]]) (aF Tryz.f133)):=by
 refine⟨?m,?h⟩
 case h=>conv=>lhs;reduce
def aSn:M:=aXT.m
def GI:MFn:=⟨56,[.tmp 2],aSn,.pass⟩
theorem aLN:aQ Tryz.prog 133 GI:=fk Tryz.func133 aXT.h
def EL:Got ((aU aSn).getD 0 .bad):=by
 refine⟨?m,?h⟩
 case h=>conv=>lhs;cbv
def V8:M:=EL.m
theorem aJy:UL V8 EL.m:=ul
def aXX:Got (cmp 21 (kpL aC [] [[0,1],[0,1]]) (aF Tryz.f134)):=by
 refine⟨?m,?h⟩
 case h=>conv=>lhs;cbv
def a9I:M:=aXX.m
def MY:MFn:=⟨21,[.tmp 2],a9I,.pass⟩
theorem aJ0:aQ Tryz.prog 134 MY:=fk Tryz.func134 aXX.h
def a2v:Got (cmp 6 (kpL aC [] [[0],[0]]) (aF Tryz.f135)):=by
 refine⟨?m,?h⟩
 case h=>conv=>lhs;cbv
def a4Y:M:=a2v.m
def G0:MFn:=⟨6,[.tmp 2],a4Y,.shut⟩
theorem aHx:aQ Tryz.prog 135 G0:=fk Tryz.func135 a2v.h
def aVs:Got (cmp 6 (kpL aC [] [[0,1],[0,1]]) (aF Tryz.f136)):=by
 refine⟨?m,?h⟩
 case h=>conv=>lhs;cbv
def bBw:M:=aVs.m
def J0:MFn:=⟨6,[.tmp 2],bBw,.pass⟩
theorem aHf:aQ Tryz.prog 136 J0:=fk Tryz.func136 aVs.h
def aXg:Got (cmp 11 (kpL aC [] [[0,1],[0,1]]) (aF Tryz.f137)):=by
 refine⟨?m,?h⟩
 case h=>conv=>lhs;cbv
def a8Q:M:=aXg.m
def LF:MFn:=⟨11,[.tmp 3],a8Q,.pass⟩
theorem aMp:aQ Tryz.prog 137 LF:=fk Tryz.func137 aXg.h
def aRU:Got (cmp 43 (kpL aC [] [[0,1],[0,1],[],[0,1],[0,5],[0,5,6],[0,5,6,17,18,19],[0,5,6,17,18,19],[0,5,6,7,8,17,18,19],[0,5,6,17,18,19],[0,5,6,17,18,19,32,33,34],[0,5,6,17,18,19,32,33,34],[0,5,6,10,17,18,19,32,33,34],[],[0,5,6,17,18,19,32,33,34],[0,5,6,17,18,19],[]]) (aF Tryz.f138)):=by
 refine⟨?m,?h⟩
 case h=>conv=>lhs;cbv
def aLf:M:=aRU.m
def HD:MFn:=⟨43,[.tmp 4],aLf,.shut⟩
theorem aHB:aQ Tryz.prog 138 HD:=fk Tryz.func138 aRU.h
def DV:Got ((aU aLf).getD 0 .bad):=by
 refine⟨?m,?h⟩
 case h=>conv=>lhs;cbv
def Q7:M:=DV.m
theorem aNa:UL Q7 DV.m:=ul
def EN:Got ((aU aLf).getD 1 .bad):=by
 refine⟨?m,?h⟩
 case h=>conv=>lhs;cbv
def U3:M:=EN.m
theorem aMo:UL U3 EN.m:=ul
def aVX:Got (cmp 21 (kpL aC [] [[0],[0]]) (aF Tryz.f139)):=by
 refine⟨?m,?h⟩
 case h=>conv=>lhs;cbv
def a8n:M:=aVX.m
def G1:MFn:=⟨21,[.tmp 1],a8n,.pass⟩
theorem aLY:aQ Tryz.prog 139 G1:=fk Tryz.func139 aVX.h
def aPR:Got (cmp 17 (kpL aC [] [[0],[0]]) (aF Tryz.f140)):=by
 refine⟨?m,?h⟩
 case h=>conv=>lhs;reduce
def a4R:M:=aPR.m
def IK:MFn:=⟨17,[.tmp 1],a4R,.pass⟩
theorem aJE:aQ Tryz.prog 140 IK:=fk Tryz.func140 aPR.h
def aRR:Got (cmp 10 (kpL aC [] [[0,1,2],[1,2,3]]) (aF Tryz.f141)):=by
 refine⟨?m,?h⟩
 case h=>conv=>lhs;cbv
def a54:M:=aRR.m
def LC:MFn:=⟨10,[.tmp 6],a54,.shut⟩
theorem aM4:aQ Tryz.prog 141 LC:=fk Tryz.func141 aRR.h
def aUf:Got (cmp 36 (kpL aC [] [[0],[0,6],[0,6],[0,2,6],[0,2,6,9],[0,2,6,9],[0,2,3,6,9],[0,2,6,9],[0,6],[0],[0,21],[0,21],[0,4,21],[0,4,21,24],[0,4,21,24],[0,4,5,21,24],[0,4,21,24],[0,21]]) (aF Tryz.f142)):=by
 refine⟨?m,?h⟩
 case h=>conv=>lhs;cbv
def XT:M:=aUf.m
def LL:MFn:=⟨36,[],XT,.pass⟩
theorem aMV:aQ Tryz.prog 142 LL:=fk Tryz.func142 aUf.h
def DK:Got ((aU XT).getD 0 .bad):=by
 refine⟨?m,?h⟩
 case h=>conv=>lhs;cbv
def VQ:M:=DK.m
theorem aJ5:UL VQ DK.m:=ul
def EF:Got ((aU XT).getD 1 .bad):=by
 refine⟨?m,?h⟩
 case h=>conv=>lhs;cbv
def U7:M:=EF.m
theorem aLi:UL U7 EF.m:=ul
def C8:Got ((aU XT).getD 2 .bad):=by
 refine⟨?m,?h⟩
 case h=>conv=>lhs;cbv
def S7:M:=C8.m
theorem aNM:UL S7 C8.m:=ul
def DF:Got ((aU XT).getD 3 .bad):=by
 refine⟨?m,?h⟩
 case h=>conv=>lhs;cbv
def VO:M:=DF.m
theorem aMt:UL VO DF.m:=ul
def aXN:Got (cmp 2 (kpL aC [] [[],[0]]) (aF Tryz.f143)):=by
 refine⟨?m,?h⟩
 case h=>conv=>lhs;cbv
def a34:M:=aXN.m
def aCA:MFn:=⟨2,[.cell 0 179],a34,.shut⟩
theorem aGd:aQ Tryz.prog 143 aCA:=fk Tryz.func143 aXN.h
def aRq:Got (cmp 2 (kpL aC [] [[],[0]]) (aF Tryz.f144)):=by
 refine⟨?m,?h⟩
 case h=>conv=>lhs;cbv
def a60:M:=aRq.m
def aBr:MFn:=⟨2,[.cell 0 179],a60,.shut⟩
theorem aJP:aQ Tryz.prog 144 aBr:=fk Tryz.func144 aRq.h
def aRn:Got (cmp 3 (kpL aC [] [[0],[0]]) (aF Tryz.f145)):=by
 refine⟨?m,?h⟩
 case h=>conv=>lhs;cbv
def a7T:M:=aRn.m
def aAP:MFn:=⟨3,[],a7T,.pass⟩
theorem aK8:aQ Tryz.prog 145 aAP:=fk Tryz.func145 aRn.h
def aR8:Got (cmp 27 (kpL aC [] [[0,1],[0,1],[0,1],[0,1],[0,1],[0,1],[0]]) (aF Tryz.f146)):=by
 refine⟨?m,?h⟩
 case h=>conv=>lhs;cbv
def a69:M:=aR8.m
def aDk:MFn:=⟨27,[.tmp 4],a69,.pass⟩
theorem aFU:aQ Tryz.prog 146 aDk:=fk Tryz.func146 aR8.h
def aPW:Got (cmp 8 (kpL aC [] [[0,1],[0,1,4]]) (aF Tryz.f147)):=by
 refine⟨?m,?h⟩
 case h=>conv=>lhs;cbv
def bAc:M:=aPW.m
def G5:MFn:=⟨8,[.cell 4 118],bAc,.shut⟩
theorem aKE:aQ Tryz.prog 147 G5:=fk Tryz.func147 aPW.h
def aX4:Got (cmp 20 (kpL aC [] [[0,1,2],[0,1,2,4],[0,1,2,4],[0,1,2,4]]) (aF Tryz.f148)):=by
 refine⟨?m,?h⟩
 case h=>conv=>lhs;reduce
def a3g:M:=aX4.m
def TR:MFn:=⟨20,[],a3g,.pass⟩
theorem aGm:aQ Tryz.prog 148 TR:=fk Tryz.func148 aX4.h
def Q4:Got ((aU a3g).getD 0 .bad):=by
 refine⟨?m,?h⟩
 case h=>conv=>lhs;cbv
def aHF:M:=Q4.m
theorem bBU:UL aHF Q4.m:=ul
def aYJ:Got (cmp 13 (kpL aC [] [[0],[0]]) (aF Tryz.f149)):=by
 refine⟨?m,?h⟩
 case h=>conv=>lhs;cbv
def a9C:M:=aYJ.m
def J3:MFn:=⟨13,[.tmp 2],a9C,.shut⟩
theorem aNf:aQ Tryz.prog 149 J3:=fk Tryz.func149 aYJ.h
def aVG:Got (cmp 9 (kpL aC [] [[0],[0]]) (aF Tryz.f150)):=by
 refine⟨?m,?h⟩
 case h=>conv=>lhs;cbv
def a3M:M:=aVG.m
def I1:MFn:=⟨9,[.tmp 2],a3M,.shut⟩
theorem aJG:aQ Tryz.prog 150 I1:=fk Tryz.func150 aVG.h
def aPZ:Got (cmp 38 (kpL aC [] [[0,1],[2,3]]) (aF Tryz.f151)):=by
 refine⟨?m,?h⟩
 case h=>conv=>lhs;cbv
def a55:M:=aPZ.m
def ME:MFn:=⟨38,[.tmp 4],a55,.shut⟩
theorem aL4:aQ Tryz.prog 151 ME:=fk Tryz.func151 aPZ.h
def aSI:Got (cmp 6 (kpL aC [] [[0],[0]]) (aF Tryz.f153)):=by
 refine⟨?m,?h⟩
 case h=>conv=>lhs;cbv
def a6K:M:=aSI.m
def aB1:MFn:=⟨6,[.tmp 2],a6K,.shut⟩
theorem aK9:aQ Tryz.prog 153 aB1:=fk Tryz.func153 aSI.h
def aZN:Got (cmp 9 (kpL aC [] [[0],[0],[],[0]]) (aF Tryz.f154)):=by
 refine⟨?m,?h⟩
 case h=>conv=>lhs;cbv
def a8G:M:=aZN.m
def IA:MFn:=⟨9,[.tmp 2],a8G,.shut⟩
theorem aJw:aQ Tryz.prog 154 IA:=fk Tryz.func154 aZN.h
def aTW:Got (cmp 22 (kpL aC [] [[0,1,2,3,4]]) (aF Tryz.f161)):=by
 refine⟨?m,?h⟩
 case h=>conv=>lhs;reduce
def a67:M:=aTW.m
def aB8:MFn:=⟨22,[],a67,.pass⟩
theorem aGF:aQ Tryz.prog 161 aB8:=fk Tryz.func161 aTW.h
def aRv:Got (cmp 33 (kpL aC [] [[0,1,2],[0,1,2],[0,1,2],[0,1,2],[0,2],[0,2],[0,2]]) (aF Tryz.f162)):=by
 refine⟨?m,?h⟩
 case h=>conv=>lhs;cbv
def a9L:M:=aRv.m
def aBW:MFn:=⟨33,[],a9L,.pass⟩
theorem aLk:aQ Tryz.prog 162 aBW:=fk Tryz.func162 aRv.h
def aVE:Got (cmp 17 (kpL aC [] [[0,1],[0,1,4],[0,1,4],[0,1,4]]) (aF Tryz.f163)):=by
 refine⟨?m,?h⟩
 case h=>conv=>lhs;cbv
def a0f:M:=aVE.m
def aDm:MFn:=⟨17,[],a0f,.pass⟩
theorem aFH:aQ Tryz.prog 163 aDm:=fk Tryz.func163 aVE.h
def SU:Got ((aU a0f).getD 0 .bad):=by
 refine⟨?m,?h⟩
 case h=>conv=>lhs;cbv
def aNC:M:=SU.m
theorem bBK:UL aNC SU.m:=ul
def aTE:Got (cmp 22 (kpL aC [] [[0,1,2,3,4]]) (aF Tryz.f164)):=by
 refine⟨?m,?h⟩
 case h=>conv=>lhs;reduce
def a6z:M:=aTE.m
def aBu:MFn:=⟨22,[],a6z,.pass⟩
theorem aGV:aQ Tryz.prog 164 aBu:=fk Tryz.func164 aTE.h
def aZt:Got (cmp 13 (kpL aC [] [[0,1,2],[0,1,2],[0],[]]) (aF Tryz.f165)):=by
 refine⟨?m,?h⟩
 case h=>conv=>lhs;cbv
def bAK:M:=aZt.m
def UG:MFn:=⟨13,[.tmp 5],bAK,.pass⟩
theorem aIj:aQ Tryz.prog 165 UG:=fk Tryz.func165 aZt.h
def aO7:Got (cmp 26 (kpL aC [] [[0,1],[0,1],[0,1,6],[0,1,6],[0,1,6],[0,6],[]]) (aF Tryz.f166)):=by
 refine⟨?m,?h⟩
 case h=>conv=>lhs;cbv
def aWY:M:=aO7.m
def GR:MFn:=⟨26,[.tmp 4,.tmp 5],aWY,.shut⟩
theorem aJo:aQ Tryz.prog 166 GR:=fk Tryz.func166 aO7.h
def D9:Got ((aU aWY).getD 0 .bad):=by
 refine⟨?m,?h⟩
 case h=>conv=>lhs;cbv
def UN:M:=D9.m
theorem aHo:UL UN D9.m:=ul
def a2K:Got (cmp 15 (kpL aC [] [[0],[1,2],[1,2,3],[1,2,3],[1,2]]) (aF Tryz.f167)):=by
 refine⟨?m,?h⟩
 case h=>conv=>lhs;cbv
def a4K:M:=a2K.m
def TP:MFn:=⟨15,[.cell 2 99],a4K,.pass⟩
theorem aK2:aQ Tryz.prog 167 TP:=fk Tryz.func167 a2K.h
def aRQ:Got (cmp 31 (kpL aC [] [[0],[0],[]]) (aF Tryz.f168)):=by
 refine⟨?m,?h⟩
 case h=>conv=>lhs;reduce
def a3R:M:=aRQ.m
def RI:MFn:=⟨31,[.tmp 2],a3R,.pass⟩
theorem aKJ:aQ Tryz.prog 168 RI:=fk Tryz.func168 aRQ.h
def aVB:Got (cmp 36 (kpL aC [] [[0],[0],[0],[]]) (aF Tryz.f169)):=by
 refine⟨?m,?h⟩
 case h=>conv=>lhs;reduce
def a4N:M:=aVB.m
def WJ:MFn:=⟨36,[.tmp 2],a4N,.pass⟩
theorem aHb:aQ Tryz.prog 169 WJ:=fk Tryz.func169 aVB.h
def aVw:Got (cmp 3 (kpL aC [] [[],[]]) (aF Tryz.f170)):=by
 refine⟨?m,?h⟩
 case h=>conv=>lhs;cbv
def a83:M:=aVw.m
def SG:MFn:=⟨3,[.tmp 2],a83,.pass⟩
theorem aIV:aQ Tryz.prog 170 SG:=fk Tryz.func170 aVw.h
def a01:Got (cmp 30 (kpL aC [] [[0],[0],[]]) (aF Tryz.f171)):=by
 refine⟨?m,?h⟩
 case h=>conv=>lhs;reduce
def a9o:M:=a01.m
def SV:MFn:=⟨30,[.tmp 2],a9o,.pass⟩
theorem aHC:aQ Tryz.prog 171 SV:=fk Tryz.func171 a01.h
def a1P:Got (cmp 23 (kpL aC [] [[0],[0],[0,3,4],[0,3],[]]) (aF Tryz.f172)):=by
 refine⟨?m,?h⟩
 case h=>conv=>lhs;reduce
def a6I:M:=a1P.m
def WK:MFn:=⟨23,[.tmp 2],a6I,.pass⟩
theorem aF4:aQ Tryz.prog 172 WK:=fk Tryz.func172 a1P.h
def aYS:Got (cmp 23 (kpL aC [] [[0,1]]) (aF Tryz.f173)):=by
 refine⟨?m,?h⟩
 case h=>conv=>lhs;reduce
def a6R:M:=aYS.m
def S8:MFn:=⟨23,[],a6R,.pass⟩
theorem aHr:aQ Tryz.prog 173 S8:=fk Tryz.func173 aYS.h
def aQy:Got (cmp 27 (kpL aC [] [[0,1],[2,3,4],[2,4],[2,3,4,7],[2,3,4,7],[2,3,4,7],[2,3,4,7],[2,3,4,7],[2,3,4],[2,4],[2,3,4],[2,4],[2,3,4],[2,4]]) (aF Tryz.f174)):=by
 refine⟨?m,?h⟩
 case h=>conv=>lhs;cbv
def bAv:M:=aQy.m
def L9:MFn:=⟨27,[.cell 4 123,.tmp 5],bAv,.shut⟩
theorem aI0:aQ Tryz.prog 174 L9:=fk Tryz.func174 aQy.h
def a1g:Got (cmp 20 (kpL aC [] [[0,1,2,3]]) (aF Tryz.f175)):=by
 refine⟨?m,?h⟩
 case h=>conv=>lhs;reduce
def a5z:M:=a1g.m
def IN:MFn:=⟨20,[],a5z,.pass⟩
theorem aK3:aQ Tryz.prog 175 IN:=fk Tryz.func175 a1g.h
def aT5:Got (cmp 18 (kpL aC [] [[0,1],[2,3],[3],[2,3],[2,3],[]]) (aF Tryz.f176)):=by
 refine⟨?m,?h⟩
 case h=>conv=>lhs;cbv
def a7h:M:=aT5.m
def LN:MFn:=⟨18,[.tmp 4],a7h,.shut⟩
theorem aLw:aQ Tryz.prog 176 LN:=fk Tryz.func176 aT5.h
def a3t:Got (cmp 12 (kpL aC [] [[0,1],[1,2]]) (aF Tryz.f177)):=by
 refine⟨?m,?h⟩
 case h=>conv=>lhs;cbv
def a9s:M:=a3t.m
def IR:MFn:=⟨12,[.tmp 4],a9s,.shut⟩
theorem aMR:aQ Tryz.prog 177 IR:=fk Tryz.func177 a3t.h
def a1O:Got (cmp 17 (kpL aC [] [[0,1],[1,2],[1,5,6],[],[1,5]]) (aF Tryz.f178)):=by
 refine⟨?m,?h⟩
 case h=>conv=>lhs;cbv
def a8s:M:=a1O.m
def JC:MFn:=⟨17,[.tmp 4],a8s,.shut⟩
theorem aIO:aQ Tryz.prog 178 JC:=fk Tryz.func178 a1O.h
def aWb:Got (cmp 23 (kpL aC [] [[0,1,2],[2,3,4,6],[2,6,8,9],[2,6,8,9],[6,8,9]]) (aF Tryz.f179)):=by
 refine⟨?m,?h⟩
 case h=>conv=>lhs;cbv
def a5U:M:=aWb.m
def H8:MFn:=⟨23,[.cell 6 114,.tmp 7],a5U,.shut⟩
theorem aJa:aQ Tryz.prog 179 H8:=fk Tryz.func179 aWb.h
def aUm:Got (cmp 36 (kpL aC [] [[0,1,2],[0,1,2,6],[6],[0,1,2,6],[6,8],[6,8,25],[6,8],[6,25],[6],[6,25],[6],[6]]) (aF Tryz.f180)):=by
 refine⟨?m,?h⟩
 case h=>conv=>lhs;cbv
def a9R:M:=aUm.m
def zN:MFn:=⟨36,[.cell 6 36,.tmp 7],a9R,.pass⟩
theorem aFF:aQ Tryz.prog 180 zN:=fk Tryz.func180 aUm.h
def aWM:Got (cmp 21 (kpL aC [] [[0,1,2],[2,3,4],[],[2,3,4],[2,4,8]]) (aF Tryz.f181)):=by
 refine⟨?m,?h⟩
 case h=>conv=>lhs;reduce
def a6c:M:=aWM.m
def MW:MFn:=⟨21,[.tmp 6,.tmp 7],a6c,.shut⟩
theorem aIf:aQ Tryz.prog 181 MW:=fk Tryz.func181 aWM.h
def a1H:Got (cmp 14 (kpL aC [] [[0,1],[1,2],[5]]) (aF Tryz.f182)):=by
 refine⟨?m,?h⟩
 case h=>conv=>lhs;cbv
def a5n:M:=a1H.m
def GO:MFn:=⟨14,[.tmp 3],a5n,.pass⟩
theorem aJZ:aQ Tryz.prog 182 GO:=fk Tryz.func182 a1H.h
def aU0:Got (cmp 65 (kpL aC [7,12] [[0,1,2,3],[2,4,5,7,8,9],[8],[2,4,5,7,8,9],[2,5,7,8,9,10],[5,7,8,9,10,11,12],[7,12,33,34],[7,12,13,34],[7,12,13,14],[12,13],[5,8,11,12],[5,8,11,15,16],[8],[5,8,11,15]]) (aF Tryz.f183)):=by
 refine⟨?m,?h⟩
 case h=>conv=>lhs;reduce
def aHu:M:=aU0.m
def KG:MFn:=⟨65,[.cell 8 114,.tmp 9],aHu,.pass⟩
theorem aKf:aQ Tryz.prog 183 KG:=fk Tryz.func183 aU0.h
def EE:Got ((aU aHu).getD 0 .bad):=by
 refine⟨?m,?h⟩
 case h=>conv=>lhs;cbv
def xT:M:=EE.m
theorem aKW:UL xT EE.m:=ul
def DJ:Got ((aU aHu).getD 1 .bad):=by
 refine⟨?m,?h⟩
 case h=>conv=>lhs;cbv
def yF:M:=DJ.m
theorem aH5:UL yF DJ.m:=ul
def a1h:Got (cmp 71 (kpL aC [] [[0,1],[0,1,4],[0,1,4,8],[1,4,8,9,10],[4,8,10],[1,4,8,9],[1,4,8,9,36,37],[1,4,8,9,36,37],[1,4,8,9,11,12,36,37],[1,4,8,9,12,36,37],[1,4,8,9,36,37],[1,4,8,9],[1,4,8,13],[4,8,13],[1,4]]) (aF Tryz.f184)):=by
 refine⟨?m,?h⟩
 case h=>conv=>lhs;reduce
def aPi:M:=a1h.m
def JH:MFn:=⟨71,[.cell 4 123,.tmp 5,.tmp 6,.tmp 7],aPi,.pass⟩
theorem aHQ:aQ Tryz.prog 184 JH:=fk Tryz.func184 a1h.h
def E2:Got ((aU aPi).getD 0 .bad):=by
 refine⟨?m,?h⟩
 case h=>conv=>lhs;cbv
def iM:M:=E2.m
theorem aNw:UL iM E2.m:=ul
def aRF:Got (cmp 18 (kpL aC [] [[0,1,2,3,4],[1,4,5,7,8]]) (aF Tryz.f185)):=by
 refine⟨?m,?h⟩
 case h=>conv=>lhs;cbv
def a7E:M:=aRF.m
def Q0:MFn:=⟨18,[.tmp 10],a7E,.pass⟩
theorem aHN:aQ Tryz.prog 185 Q0:=fk Tryz.func185 aRF.h
def aYE:Got (cmp 62 (kpL aC [] [[0,1,2,3,4],[1,2,3,4],[1,2,4],[1,2,4,26,27,28],[1,2,4,26,27,28],[1,2,4,6,26,27,28],[1,2,4,26,27,28],[1,4]]) (aF Tryz.f186)):=by
 refine⟨?m,?h⟩
 case h=>conv=>lhs;reduce
def aWK:M:=aYE.m
def LH:MFn:=⟨62,[],aWK,.pass⟩
theorem aHO:aQ Tryz.prog 186 LH:=fk Tryz.func186 aYE.h
def DI:Got ((aU aWK).getD 0 .bad):=by
 refine⟨?m,?h⟩
 case h=>conv=>lhs;cbv
def FG:M:=DI.m
theorem aLe:UL FG DI.m:=ul
def aTd:Got (cmp 71 (kpL aC [] [[0,1,2],[0,4,5,6],[0,5,6,7],[6,7],[6,7,8],[6,7,8],[6,7,8],[6,7],[0,5,6,7],[0,5,6,7],[0,5,6,7],[5,6,7],[5,6,7],[6,7],[6,7],[6,7]]) (aF Tryz.f187)):=by
 refine⟨?m,?h⟩
 case h=>conv=>lhs;reduce
def a5X:M:=aTd.m
def pB:MFn:=⟨71,[.cell 6 99],a5X,.norm⟩
theorem aHz:aQ Tryz.prog 187 pB:=fk Tryz.func187 aTd.h
def aPA:Got (cmp 29 (kpL aC [] [[0,1,2],[2,3,4],[],[2,3,4],[2,4,9],[2,4,6,9],[6,7,8]]) (aF Tryz.f188)):=by
 refine⟨?m,?h⟩
 case h=>conv=>lhs;reduce
def a9b:M:=aPA.m
def MG:MFn:=⟨29,[.tmp 6,.tmp 7,.tmp 8],a9b,.shut⟩
theorem aGX:aQ Tryz.prog 188 MG:=fk Tryz.func188 aPA.h
def aYC:Got (cmp 36 (kpL aC [] [[0],[0],[0,3],[0,3,9,10,11],[0,3,9,10,11],[0,3,5,9,10,11],[0,3,9,10,11],[0,3,9,10,11],[0,3,9,10,11],[0,3],[0,6],[6,25,26,27],[6,25,26,27],[6,8,25,26,27],[6,25,26,27],[6]]) (aF Tryz.f189)):=by
 refine⟨?m,?h⟩
 case h=>conv=>lhs;cbv
def aJW:M:=aYC.m
def TW:MFn:=⟨36,[.tmp 2],aJW,.pass⟩
theorem aL6:aQ Tryz.prog 189 TW:=fk Tryz.func189 aYC.h
def U6:Got ((aU aJW).getD 0 .bad):=by
 refine⟨?m,?h⟩
 case h=>conv=>lhs;cbv
def aIX:M:=U6.m
theorem bBX:UL aIX U6.m:=ul
def UO:Got ((aU aJW).getD 1 .bad):=by
 refine⟨?m,?h⟩
 case h=>conv=>lhs;cbv
def aND:M:=UO.m
theorem bBM:UL aND UO.m:=ul
def aP3:Got (cmp 8 (kpL aC [] [[0,1,2],[4,5]]) (aF Tryz.f190)):=by
 refine⟨?m,?h⟩
 case h=>conv=>lhs;cbv
def bAi:M:=aP3.m
def QY:MFn:=⟨8,[.tmp 6],bAi,.pass⟩
theorem aNl:aQ Tryz.prog 190 QY:=fk Tryz.func190 aP3.h
def aSH:Got (cmp 52 (kpL aC [] [[0,1],[2,3,4],[2,3,4,8],[2,4],[2,3,4,8],[2,4],[2,3,4,8],[2,4],[2,3,4,8],[2,4],[2,3,4,8],[2,3,4,8],[2,3,4],[2,3,4],[2,3,4],[2,4,8],[2,4],[2,4],[2,4],[2,4],[2,4]]) (aF Tryz.f191)):=by
 refine⟨?m,?h⟩
 case h=>conv=>lhs;reduce
def a6N:M:=aSH.m
def JE:MFn:=⟨52,[.cell 4 114,.tmp 5,.tmp 6],a6N,.shut⟩
theorem aME:aQ Tryz.prog 191 JE:=fk Tryz.func191 aSH.h
def aQp:Got (cmp 32 (kpL aC [] [[0,1,2],[1,3,5]]) (aF Tryz.f192)):=by
 refine⟨?m,?h⟩
 case h=>conv=>lhs;cbv
def a8S:M:=aQp.m
def I7:MFn:=⟨32,[.tmp 6],a8S,.shut⟩
theorem aNd:aQ Tryz.prog 192 I7:=fk Tryz.func192 aQp.h
def aWI:Got (cmp 45 (kpL aC [] [[0,1],[2,3,4],[2,3,4,7],[2,3,4,7],[4,7],[2,4],[2,3,4,7],[4,7],[2,3,4],[2,3,4],[2,4],[2,4],[2,4]]) (aF Tryz.f193)):=by
 refine⟨?m,?h⟩
 case h=>conv=>lhs;cbv
def a9J:M:=aWI.m
def L5:MFn:=⟨45,[.cell 4 54,.tmp 5,.tmp 6],a9J,.shut⟩
theorem aF5:aQ Tryz.prog 193 L5:=fk Tryz.func193 aWI.h
def aTB:Got (cmp 22 (kpL aC [] [[0,1],[2,3],[3,6],[6,13],[],[6,13],[6],[],[],[6,13],[6],[],[],[]]) (aF Tryz.f194)):=by
 refine⟨?m,?h⟩
 case h=>conv=>lhs;cbv
def bBe:M:=aTB.m
def F3:MFn:=⟨22,[.tmp 4,.tmp 5],bBe,.shut⟩
theorem aF6:aQ Tryz.prog 194 F3:=fk Tryz.func194 aTB.h
def a0N:Got (cmp 6 (kpL aC [] [[0],[1]]) (aF Tryz.f195)):=by
 refine⟨?m,?h⟩
 case h=>conv=>lhs;cbv
def bBh:M:=a0N.m
def KW:MFn:=⟨6,[.tmp 2],bBh,.shut⟩
theorem aNj:aQ Tryz.prog 195 KW:=fk Tryz.func195 a0N.h
def aXV:Got (cmp 10 (kpL aC [] [[0],[0],[3],[],[3],[],[3],[],[]]) (aF Tryz.f196)):=by
 refine⟨?m,?h⟩
 case h=>conv=>lhs;cbv
def a3L:M:=aXV.m
def GS:MFn:=⟨10,[.tmp 2],a3L,.shut⟩
theorem aNy:aQ Tryz.prog 196 GS:=fk Tryz.func196 aXV.h
def aYp:Got (cmp 22 (kpL aC [] [[0,1],[0,1,4],[0,1,8,9],[0,1,8,9],[0,1,5,6,8,9],[0,1,6,8,9],[0,1,8,9]]) (aF Tryz.f197)):=by
 refine⟨?m,?h⟩
 case h=>conv=>lhs;cbv
def aYP:M:=aYp.m
def J6:MFn:=⟨22,[],aYP,.pass⟩
theorem aKo:aQ Tryz.prog 197 J6:=fk Tryz.func197 aYp.h
def EO:Got ((aU aYP).getD 0 .bad):=by
 refine⟨?m,?h⟩
 case h=>conv=>lhs;cbv
def fU:M:=EO.m
theorem aKI:UL fU EO.m:=ul
def aV7:Got (cmp 40 (kpL aC [] [[0,1,2],[0,1,2,4],[0,2,4,9,10,11],[0,2,4,9,10,11],[0,2,4,5,6,9,10,11],[0,2,4,5,7,9,10,11],[0,2,4,5,7,9,10,11],[0,2,4,9,10,11]]) (aF Tryz.f198)):=by
 refine⟨?m,?h⟩
 case h=>conv=>lhs;reduce
def a3b:M:=aV7.m
def II:MFn:=⟨40,[],a3b,.pass⟩
theorem aF3:aQ Tryz.prog 198 II:=fk Tryz.func198 aV7.h
def EK:Got ((aU a3b).getD 0 .bad):=by
 refine⟨?m,?h⟩
 case h=>conv=>lhs;cbv
def FO:M:=EK.m
theorem aI3:UL FO EK.m:=ul
def aYc:Got (cmp 20 (kpL aC [] [[0,1],[1,2,4],[2,4],[2,4]]) (aF Tryz.f199)):=by
 refine⟨?m,?h⟩
 case h=>conv=>lhs;reduce
def a8Z:M:=aYc.m
def MF:MFn:=⟨20,[.cell 4 163],a8Z,.shut⟩
theorem aH4:aQ Tryz.prog 199 MF:=fk Tryz.func199 aYc.h
def aPh:Got (cmp 27 (kpL aC [2,3,4] [[0],[0,2,3,4],[2,3,4],[0,2,3,4],[2,3,4,5],[2,3,4,15,16],[2,3,4,6,16],[2,3,4,6,7],[2,3,4,6,7],[2,6],[2,3,4]]) (aF Tryz.f200)):=by
 refine⟨?m,?h⟩
 case h=>conv=>lhs;reduce
def aFE:M:=aPh.m
def KY:MFn:=⟨27,[.cell 2 320,.cell 3 3,.cell 4 69],aFE,.shut⟩
theorem aI6:aQ Tryz.prog 200 KY:=fk Tryz.func200 aPh.h
def DL:Got ((aU aFE).getD 0 .bad):=by
 refine⟨?m,?h⟩
 case h=>conv=>lhs;cbv
def qL:M:=DL.m
theorem aId:UL qL DL.m:=ul
def FS:Got ((aU aFE).getD 1 .bad):=by
 refine⟨?m,?h⟩
 case h=>conv=>lhs;cbv
def qS:M:=FS.m
theorem aNo:UL qS FS.m:=ul
def aRg:Got (cmp 55 (kpL aC [] [[0],[0],[],[0],[0,3],[0,3,4],[0,3,4],[0,3,4],[],[0,3,4],[0,3,4],[0,3]]) (aF Tryz.f201)):=by
 refine⟨?m,?h⟩
 case h=>conv=>lhs;cbv
def aU5:M:=aRg.m
def MA:MFn:=⟨55,[.tmp 2],aU5,.shut⟩
theorem aMB:aQ Tryz.prog 201 MA:=fk Tryz.func201 aRg.h
def FE:Got ((aU aU5).getD 0 .bad):=by
 refine⟨?m,?h⟩
 case h=>conv=>lhs;cbv
def RS:M:=FE.m
theorem aGr:UL RS FE.m:=ul
def aS2:Got (cmp 9 (kpL aC [] [[0,1],[0,1]]) (aF Tryz.f202)):=by
 refine⟨?m,?h⟩
 case h=>conv=>lhs;cbv
def a5E:M:=aS2.m
def JV:MFn:=⟨9,[.tmp 4],a5E,.shut⟩
theorem aGt:aQ Tryz.prog 202 JV:=fk Tryz.func202 aS2.h
def aXO:Got (cmp 14 (kpL aC [] [[0],[1]]) (aF Tryz.f203)):=by
 refine⟨?m,?h⟩
 case h=>conv=>lhs;cbv
def a7V:M:=aXO.m
def U5:MFn:=⟨14,[.tmp 2],a7V,.pass⟩
theorem aGe:aQ Tryz.prog 203 U5:=fk Tryz.func203 aXO.h
def a2z:Got (cmp 141 (kpL aC [] [[0,1,2,3],[0,1,2,3],[],[0,1,2,3],[0,1,2,3,9],[],[0,1,2,3,9,35],[0,9],[0,1,2,3,9,35],[0,1],[0,1,2,3,9,35],[0,2],[0,1,2,3,9,35],[0,1,2,3,9,35],[0,1,2,3,9],[],[0,1,2,3,9,35],[0,1,2,3,9],[],[0,1,2,3],[0,1,2,3,124,125],[0,1,2,3,124,125],[0,1,2,3,10,124,125],[],[0,1,2,3,124,125],[]]) (aF Tryz.f204)):=by
 refine⟨?m,?h⟩
 case h=>conv=>lhs;cbv
def aSE:M:=a2z.m
def yU:MFn:=⟨141,[.tmp 8],aSE,.pass⟩
theorem aNs:aQ Tryz.prog 204 yU:=fk Tryz.func204 a2z.h
def DB:Got ((aU aSE).getD 0 .bad):=by
 refine⟨?m,?h⟩
 case h=>conv=>lhs;cbv
def EP:M:=DB.m
theorem aFI:UL EP DB.m:=ul
def aTG:Got (cmp 43 (kpL aC [] [[0,1],[0,1,4],[0,1,4,6],[4],[0,1,4],[0,1,4,7],[4,7],[1,4,7],[4,7,32,33],[4,7,32,33],[4,7,8,32,33],[4,7,32,33],[4,7]]) (aF Tryz.f205)):=by
 refine⟨?m,?h⟩
 case h=>conv=>lhs;cbv
def aWs:M:=aTG.m
def aBV:MFn:=⟨43,[.cell 4 118],aWs,.shut⟩
theorem aM1:aQ Tryz.prog 205 aBV:=fk Tryz.func205 aTG.h
def R6:Got ((aU aWs).getD 0 .bad):=by
 refine⟨?m,?h⟩
 case h=>conv=>lhs;cbv
def aMi:M:=R6.m
theorem bBI:UL aMi R6.m:=ul
def aX9:Got (cmp 26 (kpL aC [] [[0,1],[0,1],[],[0,1],[0,1,5],[0,1,5],[0,1,5],[],[]]) (aF Tryz.f206)):=by
 refine⟨?m,?h⟩
 case h=>conv=>lhs;reduce
def aZh:M:=aX9.m
def JY:MFn:=⟨26,[.tmp 4],aZh,.shut⟩
theorem aLI:aQ Tryz.prog 206 JY:=fk Tryz.func206 aX9.h
def EJ:Got ((aU aZh).getD 0 .bad):=by
 refine⟨?m,?h⟩
 case h=>conv=>lhs;cbv
def Q8:M:=EJ.m
theorem aJg:UL Q8 EJ.m:=ul
def a0p:Got (cmp 19 (kpL aC [] [[0],[0],[0,3],[0,3,4],[0,3,4],[0,3,4],[3]]) (aF Tryz.f217)):=by
 refine⟨?m,?h⟩
 case h=>conv=>lhs;cbv
def a2P:M:=a0p.m
def aB5:MFn:=⟨19,[.tmp 2],a2P,.shut⟩
theorem aHs:aQ Tryz.prog 217 aB5:=fk Tryz.func217 a0p.h
def RQ:Got ((aU a2P).getD 0 .bad):=by
 refine⟨?m,?h⟩
 case h=>conv=>lhs;cbv
def aIl:M:=RQ.m
theorem bBR:UL aIl RQ.m:=ul
def aRw:Got (cmp 21 (kpL aC [] [[0,1],[0,1]]) (aF Tryz.f218)):=by
 refine⟨?m,?h⟩
 case h=>conv=>lhs;reduce
def a4k:M:=aRw.m
def SX:MFn:=⟨21,[],a4k,.pass⟩
theorem aGv:aQ Tryz.prog 218 SX:=fk Tryz.func218 aRw.h
def a1F:Got (cmp 23 (kpL aC [] [[0,1,2],[0,1,2],[1,2,7],[1,2],[1,2,7],[1,2],[1,2,7],[1,2],[]]) (aF Tryz.f219)):=by
 refine⟨?m,?h⟩
 case h=>conv=>lhs;cbv
def a8B:M:=a1F.m
def MP:MFn:=⟨23,[.tmp 6],a8B,.shut⟩
theorem aGo:aQ Tryz.prog 219 MP:=fk Tryz.func219 a1F.h
def aTP:Got (cmp 23 (kpL aC [] [[0,1,2],[0,1,2],[1,2,7],[1,2],[1,2,7],[1,2],[1,2,7],[1,2],[]]) (aF Tryz.f220)):=by
 refine⟨?m,?h⟩
 case h=>conv=>lhs;cbv
def bAb:M:=aTP.m
def IG:MFn:=⟨23,[.tmp 6],bAb,.shut⟩
theorem aNe:aQ Tryz.prog 220 IG:=fk Tryz.func220 aTP.h
def aVk:Got (cmp 22 (kpL aC [7,8,9] [[0,1,2,3],[1,2,4,7,8,9],[7,8,9,16,17],[7,8,9,10,17],[7,8,9,10,11],[8,9,10],[8,9]]) (aF Tryz.f221)):=by
 refine⟨?m,?h⟩
 case h=>conv=>lhs;reduce
def aJj:M:=aVk.m
def WO:MFn:=⟨22,[.cell 8 3,.cell 9 4],aJj,.pass⟩
theorem aJx:aQ Tryz.prog 221 WO:=fk Tryz.func221 aVk.h
def E4:Got ((aU aJj).getD 0 .bad):=by
 refine⟨?m,?h⟩
 case h=>conv=>lhs;cbv
def lT:M:=E4.m
theorem aJv:UL lT E4.m:=ul
def FT:Got ((aU aJj).getD 1 .bad):=by
 refine⟨?m,?h⟩
 case h=>conv=>lhs;cbv
def lR:M:=FT.m
theorem aHl:UL lR FT.m:=ul
def aTO:Got (cmp 10 (kpL aC [] [[0,1],[1,2]]) (aF Tryz.f222)):=by
 refine⟨?m,?h⟩
 case h=>conv=>lhs;cbv
def a9q:M:=aTO.m
def JG:MFn:=⟨10,[.tmp 4],a9q,.shut⟩
theorem aF7:aQ Tryz.prog 222 JG:=fk Tryz.func222 aTO.h
def aRB:Got (cmp 6 (kpL aC [] [[0],[1]]) (aF Tryz.f223)):=by
 refine⟨?m,?h⟩
 case h=>conv=>lhs;cbv
def a6h:M:=aRB.m
def HI:MFn:=⟨6,[.tmp 2],a6h,.shut⟩
theorem aFp:aQ Tryz.prog 223 HI:=fk Tryz.func223 aRB.h
def a3o:Got (cmp 8 (kpL aC [] [[0,1,2],[3,4,5]]) (aF Tryz.f224)):=by
 refine⟨?m,?h⟩
 case h=>conv=>lhs;cbv
def a8q:M:=a3o.m
def WG:MFn:=⟨8,[.tmp 6],a8q,.pass⟩
theorem aJ2:aQ Tryz.prog 224 WG:=fk Tryz.func224 a3o.h
def a00:Got (cmp 22 (kpL aC [] [[0,1],[2,3],[],[2,3],[2,6]]) (aF Tryz.f226)):=by
 refine⟨?m,?h⟩
 case h=>conv=>lhs;reduce
def a7I:M:=a00.m
def GX:MFn:=⟨22,[.tmp 4,.tmp 5],a7I,.shut⟩
theorem aLQ:aQ Tryz.prog 226 GX:=fk Tryz.func226 a00.h
def aUH:Got (cmp 2 (kpL aC [] [[],[0]]) (aF Tryz.f227)):=by
 refine⟨?m,?h⟩
 case h=>conv=>lhs;cbv
def a8f:M:=aUH.m
def aBq:MFn:=⟨2,[.cell 0 352],a8f,.shut⟩
theorem aKQ:aQ Tryz.prog 227 aBq:=fk Tryz.func227 aUH.h
def aX8:Got (cmp 101 (kpL aC [] [[0,1],[0,1],[0,1],[0,12],[0],[0,12],[0,12],[0,12],[0,12],[0],[0],[0],[0,5,6],[6],[0,5],[0],[0],[0],[0],[]]) (aF Tryz.f228)):=by
 refine⟨?m,?h⟩
 case h=>conv=>lhs;reduce
def a8b:M:=aX8.m
def JL:MFn:=⟨101,[.tmp 4],a8b,.pass⟩
theorem aKO:aQ Tryz.prog 228 JL:=fk Tryz.func228 aX8.h
def aQ0:Got (cmp 4 (kpL aC [] [[0],[1]]) (aF Tryz.f229)):=by
 refine⟨?m,?h⟩
 case h=>conv=>lhs;cbv
def a7u:M:=aQ0.m
def WF:MFn:=⟨4,[.tmp 2],a7u,.pass⟩
theorem aGK:aQ Tryz.prog 229 WF:=fk Tryz.func229 aQ0.h
def aZG:Got (cmp 27 (kpL aC [] [[0,1],[0,1],[0,1],[0,1],[0,1],[0,1],[0]]) (aF Tryz.f230)):=by
 refine⟨?m,?h⟩
 case h=>conv=>lhs;cbv
def a7P:M:=aZG.m
def T4:MFn:=⟨27,[.tmp 4],a7P,.pass⟩
theorem aGs:aQ Tryz.prog 230 T4:=fk Tryz.func230 aZG.h
def a0Z:Got (cmp 17 (kpL aC [] [[0,1,2],[0,1,2]]) (aF Tryz.f231)):=by
 refine⟨?m,?h⟩
 case h=>conv=>lhs;cbv
def bAn:M:=a0Z.m
def VX:MFn:=⟨17,[.tmp 4],bAn,.pass⟩
theorem aFM:aQ Tryz.prog 231 VX:=fk Tryz.func231 a0Z.h
def aVo:Got (cmp 30 (kpL aC [] [[0,1],[2,3],[],[2,3],[],[2,3],[],[2],[],[]]) (aF Tryz.f232)):=by
 refine⟨?m,?h⟩
 case h=>conv=>lhs;cbv
def bAV:M:=aVo.m
def HU:MFn:=⟨30,[.tmp 4],bAV,.shut⟩
theorem aGi:aQ Tryz.prog 232 HU:=fk Tryz.func232 aVo.h
def aTw:Got (cmp 25 (kpL aC [] [[0,1],[1,2],[1,5,6],[],[1,5]]) (aF Tryz.f233)):=by
 refine⟨?m,?h⟩
 case h=>conv=>lhs;reduce
def a6p:M:=aTw.m
def MJ:MFn:=⟨25,[.tmp 4],a6p,.shut⟩
theorem aJt:aQ Tryz.prog 233 MJ:=fk Tryz.func233 aTw.h
def a2n:Got (cmp 5 (kpL aC [] [[0],[1]]) (aF Tryz.f234)):=by
 refine⟨?m,?h⟩
 case h=>conv=>lhs;cbv
def a8t:M:=a2n.m
def GU:MFn:=⟨5,[],a8t,.pass⟩
theorem aF9:aQ Tryz.prog 234 GU:=fk Tryz.func234 a2n.h
def aSV:Got (cmp 20 (kpL aC [] [[0]]) (aF Tryz.f235)):=by
 refine⟨?m,?h⟩
 case h=>conv=>lhs;reduce
def bBu:M:=aSV.m
def I3:MFn:=⟨20,[],bBu,.pass⟩
theorem aLm:aQ Tryz.prog 235 I3:=fk Tryz.func235 aSV.h
def aVW:Got (cmp 20 (kpL aC [] [[0]]) (aF Tryz.f236)):=by
 refine⟨?m,?h⟩
 case h=>conv=>lhs;reduce
def a95:M:=aVW.m
def HK:MFn:=⟨20,[],a95,.pass⟩
theorem aNi:aQ Tryz.prog 236 HK:=fk Tryz.func236 aVW.h
def aPI:Got (cmp 22 (kpL aC [] [[0],[0]]) (aF Tryz.f237)):=by
 refine⟨?m,?h⟩
 case h=>conv=>lhs;reduce
def a49:M:=aPI.m
def F2:MFn:=⟨22,[],a49,.pass⟩
theorem aFC:aQ Tryz.prog 237 F2:=fk Tryz.func237 aPI.h
def aQJ:Got (cmp 26 (kpL aC [] [[0],[0]]) (aF Tryz.f238)):=by
 refine⟨?m,?h⟩
 case h=>conv=>lhs;reduce
def a62:M:=aQJ.m
def JZ:MFn:=⟨26,[],a62,.pass⟩
theorem aMn:aQ Tryz.prog 238 JZ:=fk Tryz.func238 aQJ.h
def aVS:Got (cmp 15 (kpL aC [] [[0]]) (aF Tryz.f239)):=by
 refine⟨?m,?h⟩
 case h=>conv=>lhs;reduce
def a5v:M:=aVS.m
def LJ:MFn:=⟨15,[],a5v,.pass⟩
theorem aJK:aQ Tryz.prog 239 LJ:=fk Tryz.func239 aVS.h
def aSq:Got (cmp 11 (kpL aC [] [[0]]) (aF Tryz.f240)):=by
 refine⟨?m,?h⟩
 case h=>conv=>lhs;cbv
def a81:M:=aSq.m
def IF:MFn:=⟨11,[],a81,.pass⟩
theorem aFY:aQ Tryz.prog 240 IF:=fk Tryz.func240 aSq.h
def aT2:Got (cmp 11 (kpL aC [] [[0]]) (aF Tryz.f241)):=by
 refine⟨?m,?h⟩
 case h=>conv=>lhs;cbv
def a8j:M:=aT2.m
def LE:MFn:=⟨11,[],a8j,.pass⟩
theorem aM2:aQ Tryz.prog 241 LE:=fk Tryz.func241 aT2.h
def aYi:Got (cmp 12 (kpL aC [] [[0]]) (aF Tryz.f242)):=by
 refine⟨?m,?h⟩
 case h=>conv=>lhs;cbv
def bAB:M:=aYi.m
def HP:MFn:=⟨12,[],bAB,.pass⟩
theorem aGB:aQ Tryz.prog 242 HP:=fk Tryz.func242 aYi.h
def aPt:Got (cmp 17 (kpL aC [] [[0]]) (aF Tryz.f243)):=by
 refine⟨?m,?h⟩
 case h=>conv=>lhs;reduce
def a7Q:M:=aPt.m
def KX:MFn:=⟨17,[],a7Q,.pass⟩
theorem aHS:aQ Tryz.prog 243 KX:=fk Tryz.func243 aPt.h
def aW9:Got (cmp 27 (kpL aC [] [[0],[0],[0]]) (aF Tryz.f244)):=by
 refine⟨?m,?h⟩
 case h=>conv=>lhs;reduce
def a7e:M:=aW9.m
def G8:MFn:=⟨27,[],a7e,.pass⟩
theorem aHR:aQ Tryz.prog 244 G8:=fk Tryz.func244 aW9.h
def aWe:Got (cmp 11 (kpL aC [] [[0]]) (aF Tryz.f245)):=by
 refine⟨?m,?h⟩
 case h=>conv=>lhs;cbv
def a9D:M:=aWe.m
def LP:MFn:=⟨11,[],a9D,.pass⟩
theorem aHM:aQ Tryz.prog 245 LP:=fk Tryz.func245 aWe.h
def aUr:Got (cmp 6 (kpL aC [] [[0]]) (aF Tryz.f246)):=by
 refine⟨?m,?h⟩
 case h=>conv=>lhs;cbv
def a4L:M:=aUr.m
def KT:MFn:=⟨6,[],a4L,.pass⟩
theorem aGu:aQ Tryz.prog 246 KT:=fk Tryz.func246 aUr.h
def aVK:Got (cmp 20 (kpL aC [] [[0],[0]]) (aF Tryz.f247)):=by
 refine⟨?m,?h⟩
 case h=>conv=>lhs;cbv
def a7U:M:=aVK.m
def F6:MFn:=⟨20,[],a7U,.pass⟩
theorem aFN:aQ Tryz.prog 247 F6:=fk Tryz.func247 aVK.h
def aW4:Got (cmp 11 (kpL aC [] [[0]]) (aF Tryz.f248)):=by
 refine⟨?m,?h⟩
 case h=>conv=>lhs;cbv
def bAC:M:=aW4.m
def I9:MFn:=⟨11,[],bAC,.pass⟩
theorem aL8:aQ Tryz.prog 248 I9:=fk Tryz.func248 aW4.h
def a2b:Got (cmp 4 (kpL aC [] [[0],[1]]) (aF Tryz.f249)):=by
 refine⟨?m,?h⟩
 case h=>conv=>lhs;cbv
def a4h:M:=a2b.m
def U1:MFn:=⟨4,[.tmp 2],a4h,.pass⟩
theorem aJ9:aQ Tryz.prog 249 U1:=fk Tryz.func249 a2b.h
def a0X:Got (cmp 47 (kpL aC [] [[0],[0],[],[0],[],[0],[25],[25],[],[25],[],[25],[],[25],[],[25],[25],[25],[25],[25],[25],[25],[25],[25],[25],[25],[],[]]) (aF Tryz.f250)):=by
 refine⟨?m,?h⟩
 case h=>conv=>lhs;cbv
def a4c:M:=a0X.m
def aCP:MFn:=⟨47,[.tmp 2],a4c,.shut⟩
theorem aHI:aQ Tryz.prog 250 aCP:=fk Tryz.func250 a0X.h
def a0C:Got (cmp 22 (kpL aC [] [[0],[0],[3],[3],[3],[3],[3],[3],[3],[3],[3],[3],[3],[3],[3],[3],[3],[3],[3],[],[]]) (aF Tryz.f251)):=by
 refine⟨?m,?h⟩
 case h=>conv=>lhs;cbv
def a7Y:M:=a0C.m
def HZ:MFn:=⟨22,[.tmp 2],a7Y,.shut⟩
theorem aK7:aQ Tryz.prog 251 HZ:=fk Tryz.func251 a0C.h
def aX2:Got (cmp 16 (kpL aC [] [[0],[0],[3]]) (aF Tryz.f252)):=by
 refine⟨?m,?h⟩
 case h=>conv=>lhs;cbv
def a4O:M:=aX2.m
def GP:MFn:=⟨16,[.tmp 2],a4O,.shut⟩
theorem aKe:aQ Tryz.prog 252 GP:=fk Tryz.func252 aX2.h
def a0l:Got (cmp 19 (kpL aC [] [[0,1],[0,1],[0,1,7,8],[0,1,7,8],[0,1,5,7,8],[5],[0,1,7,8],[]]) (aF Tryz.f253)):=by
 refine⟨?m,?h⟩
 case h=>conv=>lhs;cbv
def a2C:M:=a0l.m
def F7:MFn:=⟨19,[.tmp 4],a2C,.shut⟩
theorem aG1:aQ Tryz.prog 253 F7:=fk Tryz.func253 a0l.h
def DC:Got ((aU a2C).getD 0 .bad):=by
 refine⟨?m,?h⟩
 case h=>conv=>lhs;cbv
def UC:M:=DC.m
theorem aKM:UL UC DC.m:=ul
def aZD:Got (cmp 16 (kpL aC [] [[0],[0]]) (aF Tryz.f254)):=by
 refine⟨?m,?h⟩
 case h=>conv=>lhs;cbv
def bBA:M:=aZD.m
def G4:MFn:=⟨16,[.tmp 1],bBA,.pass⟩
theorem aNO:aQ Tryz.prog 254 G4:=fk Tryz.func254 aZD.h
def aUF:Got (cmp 9 (kpL aC [] [[0],[0]]) (aF Tryz.f255)):=by
 refine⟨?m,?h⟩
 case h=>conv=>lhs;reduce
def a56:M:=aUF.m
def GQ:MFn:=⟨9,[.tmp 1],a56,.pass⟩
theorem aJT:aQ Tryz.prog 255 GQ:=fk Tryz.func255 aUF.h
def aRG:Got (cmp 67 (kpL aC [] [[0],[0,2],[0,2,3],[0,2,3],[0,2,3],[0,2,3],[0,2,3],[0,2,3],[0,2,3],[0,2,3],[0,2,3],[0,2,3],[0,2,3],[0,2,3],[0,2,3],[0,2,3],[2,3]]) (aF Tryz.f256)):=by
 refine⟨?m,?h⟩
 case h=>conv=>lhs;cbv
def bBc:M:=aRG.m
def SM:MFn:=⟨67,[.cell 2 93],bBc,.pass⟩
theorem aIt:aQ Tryz.prog 256 SM:=fk Tryz.func256 aRG.h
def aRy:Got (cmp 8 (kpL aC [] [[0],[0]]) (aF Tryz.f257)):=by
 refine⟨?m,?h⟩
 case h=>conv=>lhs;cbv
def a9e:M:=aRy.m
def LA:MFn:=⟨8,[.tmp 1],a9e,.pass⟩
theorem aIe:aQ Tryz.prog 257 LA:=fk Tryz.func257 aRy.h
def aYX:Got (cmp 18 (kpL aC [] [[0],[0]]) (aF Tryz.f258)):=by
 refine⟨?m,?h⟩
 case h=>conv=>lhs;reduce
def a5I:M:=aYX.m
def H7:MFn:=⟨18,[.tmp 1],a5I,.pass⟩
theorem aM9:aQ Tryz.prog 258 H7:=fk Tryz.func258 aYX.h
def a3w:Got (cmp 15 (kpL aC [] [[0,1],[0,1]]) (aF Tryz.f259)):=by
 refine⟨?m,?h⟩
 case h=>conv=>lhs;cbv
def bAe:M:=a3w.m
def G2:MFn:=⟨15,[.tmp 4],bAe,.pass⟩
theorem aJq:aQ Tryz.prog 259 G2:=fk Tryz.func259 a3w.h
def aWa:Got (cmp 16 (kpL aC [] [[0],[0]]) (aF Tryz.f260)):=by
 refine⟨?m,?h⟩
 case h=>conv=>lhs;cbv
def a6T:M:=aWa.m
def JN:MFn:=⟨16,[.tmp 1],a6T,.pass⟩
theorem aKk:aQ Tryz.prog 260 JN:=fk Tryz.func260 aWa.h
def aV4:Got (cmp 11 (kpL aC [] [[0],[1]]) (aF Tryz.f261)):=by
 refine⟨?m,?h⟩
 case h=>conv=>lhs;cbv
def a47:M:=aV4.m
def IC:MFn:=⟨11,[.tmp 2],a47,.shut⟩
theorem aHH:aQ Tryz.prog 261 IC:=fk Tryz.func261 aV4.h
def aRC:Got (cmp 64 (kpL aC [] [[0],[0],[0,7],[0],[0,7],[0],[0,7],[0],[]]) (aF Tryz.f262)):=by
 refine⟨?m,?h⟩
 case h=>conv=>lhs;cbv
def bAd:M:=aRC.m
def FX:MFn:=⟨64,[.tmp 2],bAd,.pass⟩
theorem aLZ:aQ Tryz.prog 262 FX:=fk Tryz.func262 aRC.h
def aYm:Got (cmp 56 (kpL aC [] [[0],[0],[0,7],[0],[0,7],[0],[]]) (aF Tryz.f263)):=by
 refine⟨?m,?h⟩
 case h=>conv=>lhs;cbv
def bBf:M:=aYm.m
def HF:MFn:=⟨56,[.tmp 2],bBf,.pass⟩
theorem aIM:aQ Tryz.prog 263 HF:=fk Tryz.func263 aYm.h
def a12:Got (cmp 26 (kpL aC [] [[0],[0]]) (aF Tryz.f264)):=by
 refine⟨?m,?h⟩
 case h=>conv=>lhs;reduce
def a5P:M:=a12.m
def MO:MFn:=⟨26,[.tmp 1],a5P,.pass⟩
theorem aKr:aQ Tryz.prog 264 MO:=fk Tryz.func264 a12.h
def aYr:Got (cmp 7 (kpL aC [] [[],[]]) (aF Tryz.f265)):=by
 refine⟨?m,?h⟩
 case h=>conv=>lhs;cbv
def bAO:M:=aYr.m
def aEu:MFn:=⟨7,[.tmp 0],bAO,.shut⟩
theorem aMF:aQ Tryz.prog 265 aEu:=fk Tryz.func265 aYr.h
def a1s:Got (cmp 20 (kpL aC [] [[0,1],[1,2],[1,5,6],[],[1,5]]) (aF Tryz.f284)):=by
 refine⟨?m,?h⟩
 case h=>conv=>lhs;cbv
def a5S:M:=a1s.m
def FW:MFn:=⟨20,[.tmp 4],a5S,.shut⟩
theorem aL1:aQ Tryz.prog 284 FW:=fk Tryz.func284 a1s.h
def aTh:Got (cmp 25 (kpL aC [] [[0,1,2,3],[0,2,3,8,9],[0,2,3,8,9],[0,2,3,5,8,9],[0,2,3,8,9]]) (aF Tryz.f285)):=by
 refine⟨?m,?h⟩
 case h=>conv=>lhs;reduce
def aVf:M:=aTh.m
def UQ:MFn:=⟨25,[],aVf,.pass⟩
theorem aMj:aQ Tryz.prog 285 UQ:=fk Tryz.func285 aTh.h
def FL:Got ((aU aVf).getD 0 .bad):=by
 refine⟨?m,?h⟩
 case h=>conv=>lhs;cbv
def oH:M:=FL.m
theorem aFy:UL oH FL.m:=ul
def a0R:Got (cmp 3 (kpL aC [] [[0],[0]]) (aF Tryz.f286)):=by
 refine⟨?m,?h⟩
 case h=>conv=>lhs;cbv
def a5C:M:=a0R.m
def aFf:MFn:=⟨3,[],a5C,.pass⟩
theorem aFV:aQ Tryz.prog 286 aFf:=fk Tryz.func286 a0R.h
def aVV:Got (cmp 35 (kpL aC [] [[0],[1],[],[1],[1,12],[1],[1,12],[1,12],[1,12],[1],[]]) (aF Tryz.f287)):=by
 refine⟨?m,?h⟩
 case h=>conv=>lhs;cbv
def a5R:M:=aVV.m
def IT:MFn:=⟨35,[.tmp 2],a5R,.shut⟩
theorem aNF:aQ Tryz.prog 287 IT:=fk Tryz.func287 aVV.h
def aXr:Got (cmp 16 (kpL aC [] [[0,1,2],[0,1,2]]) (aF Tryz.f288)):=by
 refine⟨?m,?h⟩
 case h=>conv=>lhs;reduce
def a4D:M:=aXr.m
def JU:MFn:=⟨16,[.tmp 4],a4D,.pass⟩
theorem aIo:aQ Tryz.prog 288 JU:=fk Tryz.func288 aXr.h
def aWT:Got (cmp 15 (kpL aC [] [[0],[0]]) (aF Tryz.f289)):=by
 refine⟨?m,?h⟩
 case h=>conv=>lhs;cbv
def a9T:M:=aWT.m
def KQ:MFn:=⟨15,[],a9T,.pass⟩
theorem aH1:aQ Tryz.prog 289 KQ:=fk Tryz.func289 aWT.h
def a3q:Got (cmp 8 (kpL aC [] [[0]]) (aF Tryz.f290)):=by
 refine⟨?m,?h⟩
 case h=>conv=>lhs;cbv
def a6e:M:=a3q.m
def LT:MFn:=⟨8,[],a6e,.pass⟩
theorem aHg:aQ Tryz.prog 290 LT:=fk Tryz.func290 a3q.h
def aO9:Got (cmp 8 (kpL aC [] [[0]]) (aF Tryz.f291)):=by
 refine⟨?m,?h⟩
 case h=>conv=>lhs;cbv
def a7H:M:=aO9.m
def HE:MFn:=⟨8,[],a7H,.pass⟩
theorem aIv:aQ Tryz.prog 291 HE:=fk Tryz.func291 aO9.h
def aUW:Got (cmp 13 (kpL aC [] [[0]]) (aF Tryz.f292)):=by
 refine⟨?m,?h⟩
 case h=>conv=>lhs;reduce
def a9d:M:=aUW.m
def KI:MFn:=⟨13,[],a9d,.pass⟩
theorem aHU:aQ Tryz.prog 292 KI:=fk Tryz.func292 aUW.h
def aTz:Got (cmp 21 (kpL aC [] [[0]]) (aF Tryz.f293)):=by
 refine⟨?m,?h⟩
 case h=>conv=>lhs;reduce
def a6k:M:=aTz.m
def IE:MFn:=⟨21,[],a6k,.pass⟩
theorem aFu:aQ Tryz.prog 293 IE:=fk Tryz.func293 aTz.h
def aRx:Got (cmp 13 (kpL aC [] [[0]]) (aF Tryz.f294)):=by
 refine⟨?m,?h⟩
 case h=>conv=>lhs;reduce
def a3G:M:=aRx.m
def IP:MFn:=⟨13,[],a3G,.pass⟩
theorem aHY:aQ Tryz.prog 294 IP:=fk Tryz.func294 aRx.h
def a1Z:Got (cmp 11 (kpL aC [] [[0]]) (aF Tryz.f295)):=by
 refine⟨?m,?h⟩
 case h=>conv=>lhs;cbv
def a4C:M:=a1Z.m
def MI:MFn:=⟨11,[],a4C,.pass⟩
theorem aKp:aQ Tryz.prog 295 MI:=fk Tryz.func295 a1Z.h
def a2p:Got (cmp 8 (kpL aC [] [[0]]) (aF Tryz.f296)):=by
 refine⟨?m,?h⟩
 case h=>conv=>lhs;cbv
def a4U:M:=a2p.m
def KP:MFn:=⟨8,[],a4U,.pass⟩
theorem aLO:aQ Tryz.prog 296 KP:=fk Tryz.func296 a2p.h
def aYo:Got (cmp 92 (kpL aC [] [[0],[0,2],[0,2],[0,2,3],[0,2,3,4],[0,2,3,4],[0,2,3,4],[0,2,3,4]]) (aF Tryz.f297)):=by
 refine⟨?m,?h⟩
 case h=>conv=>lhs;reduce
def a6u:M:=aYo.m
def F8:MFn:=⟨92,[],a6u,.pass⟩
theorem aLM:aQ Tryz.prog 297 F8:=fk Tryz.func297 aYo.h
def aSS:Got (cmp 5 (kpL aC [] [[0]]) (aF Tryz.f298)):=by
 refine⟨?m,?h⟩
 case h=>conv=>lhs;cbv
def a6V:M:=aSS.m
def LB:MFn:=⟨5,[],a6V,.pass⟩
theorem aMX:aQ Tryz.prog 298 LB:=fk Tryz.func298 aSS.h
def a3j:Got (cmp 76 (kpL aC [] [[0,1,2],[3,4,5,6],[4,6],[3,4,5,6],[4,6],[3,4,5,6],[3,4,5,6,8,9,10],[4,5,6,8,9],[4,6],[3,4,5,6,8],[4,5,6,8,9,11],[4,6],[4,5,6,8,9],[4,6,8,9],[4,6]]) (aF Tryz.f299)):=by
 refine⟨?m,?h⟩
 case h=>conv=>lhs;reduce
def a8A:M:=a3j.m
def KU:MFn:=⟨76,[.cell 6 123,.tmp 7],a8A,.shut⟩
theorem aJi:aQ Tryz.prog 299 KU:=fk Tryz.func299 a3j.h
def aWr:Got (cmp 29 (kpL aC [] [[0,1,2],[2,3,4,6],[4,6,7,8,9],[4,6,7,8],[4,6]]) (aF Tryz.f300)):=by
 refine⟨?m,?h⟩
 case h=>conv=>lhs;cbv
def a8J:M:=aWr.m
def MR:MFn:=⟨29,[.cell 6 123],a8J,.shut⟩
theorem aJH:aQ Tryz.prog 300 MR:=fk Tryz.func300 aWr.h
def aZ0:Got (cmp 26 (kpL aC [] [[0,1,2],[2,3,4,6],[4,6,7,8,9],[4,6,7,8],[4,6]]) (aF Tryz.f301)):=by
 refine⟨?m,?h⟩
 case h=>conv=>lhs;cbv
def a7m:M:=aZ0.m
def KA:MFn:=⟨26,[.cell 6 123],a7m,.shut⟩
theorem aI5:aQ Tryz.prog 301 KA:=fk Tryz.func301 aZ0.h
def a0g:Got (cmp 13 (kpL aC [] [[0,1],[1,2]]) (aF Tryz.f302)):=by
 refine⟨?m,?h⟩
 case h=>conv=>lhs;cbv
def a5q:M:=a0g.m
def RZ:MFn:=⟨13,[.tmp 3],a5q,.pass⟩
theorem aK5:aQ Tryz.prog 302 RZ:=fk Tryz.func302 a0g.h
def aY2:Got (cmp 29 (kpL aC [] [[0,1],[1,4],[1,4,17],[1,4,17],[1,4,5,17],[1,4,5,17],[1,4,17]]) (aF Tryz.f303)):=by
 refine⟨?m,?h⟩
 case h=>conv=>lhs;reduce
def aR6:M:=aY2.m
def IX:MFn:=⟨29,[],aR6,.pass⟩
theorem aHV:aQ Tryz.prog 303 IX:=fk Tryz.func303 aY2.h
def EC:Got ((aU aR6).getD 0 .bad):=by
 refine⟨?m,?h⟩
 case h=>conv=>lhs;cbv
def E5:M:=EC.m
theorem aMs:UL E5 EC.m:=ul
def a27:Got (cmp 36 (kpL aC [] [[0,1],[0,1],[1]]) (aF Tryz.f304)):=by
 refine⟨?m,?h⟩
 case h=>conv=>lhs;reduce
def bBd:M:=a27.m
def GC:MFn:=⟨36,[],bBd,.pass⟩
theorem aFK:aQ Tryz.prog 304 GC:=fk Tryz.func304 a27.h
def aVp:Got (cmp 34 (kpL aC [] [[0,1],[0,6,7,8],[0,6,7,8],[0,5,6,7,8],[0,5,6,7,8],[0,6,7,8]]) (aF Tryz.f305)):=by
 refine⟨?m,?h⟩
 case h=>conv=>lhs;reduce
def aWk:M:=aVp.m
def CK:MFn:=⟨34,[],aWk,.pass⟩
theorem aLs:aQ Tryz.prog 305 CK:=fk Tryz.func305 aVp.h
def UD:Got ((aU aWk).getD 0 .bad):=by
 refine⟨?m,?h⟩
 case h=>conv=>lhs;cbv
def aJd:M:=UD.m
theorem bBT:UL aJd UD.m:=ul
def aZw:Got (cmp 6 (kpL aC [] [[0],[1,2]]) (aF Tryz.f306)):=by
 refine⟨?m,?h⟩
 case h=>conv=>lhs;cbv
def a6G:M:=aZw.m
def IS:MFn:=⟨6,[.cell 2 50],a6G,.shut⟩
theorem aMP:aQ Tryz.prog 306 IS:=fk Tryz.func306 aZw.h
def a21:Got (cmp 26 (kpL aC [] [[0,1],[1,2,4],[1,2,4,5,6],[2,4],[1,2,4,5]]) (aF Tryz.f307)):=by
 refine⟨?m,?h⟩
 case h=>conv=>lhs;reduce
def a7t:M:=a21.m
def JB:MFn:=⟨26,[.cell 4 50],a7t,.shut⟩
theorem aJD:aQ Tryz.prog 307 JB:=fk Tryz.func307 a21.h
def aTl:Got (cmp 23 (kpL aC [] [[0,1],[0,1,3,4],[0,1,3],[0,1,3],[0,1,3],[0,1,22]]) (aF Tryz.f308)):=by
 refine⟨?m,?h⟩
 case h=>conv=>lhs;reduce
def a3l:M:=aTl.m
def KV:MFn:=⟨23,[],a3l,.pass⟩
theorem aHX:aQ Tryz.prog 308 KV:=fk Tryz.func308 aTl.h
def EB:Got ((aU a3l).getD 0 .bad):=by
 refine⟨?m,?h⟩
 case h=>conv=>lhs;cbv
def xR:M:=EB.m
theorem aL9:UL xR EB.m:=ul
def aQB:Got (cmp 57 (kpL aC [] [[0],[0,2],[0,2],[0,2],[0,2],[0,2],[0,2,4],[0,2,4,5],[0,2,4,5],[0,2,4],[2,4],[0,2,5],[2]]) (aF Tryz.f309)):=by
 refine⟨?m,?h⟩
 case h=>conv=>lhs;reduce
def aRo:M:=aQB.m
def L4:MFn:=⟨57,[.cell 2 325,.tmp 3],aRo,.pass⟩
theorem aFX:aQ Tryz.prog 309 L4:=fk Tryz.func309 aQB.h
def FJ:Got ((aU aRo).getD 0 .bad):=by
 refine⟨?m,?h⟩
 case h=>conv=>lhs;cbv
def RY:M:=FJ.m
theorem aJY:UL RY FJ.m:=ul
def aWy:Got (cmp 30 (kpL aC [] [[0],[1],[1,6],[1],[],[1,6],[1],[4],[],[1,6],[1],[],[]]) (aF Tryz.f310)):=by
 refine⟨?m,?h⟩
 case h=>conv=>lhs;cbv
def a11:M:=aWy.m
def BM:MFn:=⟨30,[.tmp 2],a11,.shut⟩
theorem aJV:aQ Tryz.prog 310 BM:=fk Tryz.func310 aWy.h
def aVQ:Got (cmp 45 (kpL aC [] [[0,1],[1,2,4],[1,2,4,8,9],[1,2,4,8,9],[1,2,4,5,8,9],[1,2,4,5],[1,2,4,8,9],[1,2,4],[2,4]]) (aF Tryz.f311)):=by
 refine⟨?m,?h⟩
 case h=>conv=>lhs;reduce
def a1T:M:=aVQ.m
def aCL:MFn:=⟨45,[.cell 4 118],a1T,.shut⟩
theorem aLj:aQ Tryz.prog 311 aCL:=fk Tryz.func311 aVQ.h
def V2:Got ((aU a1T).getD 0 .bad):=by
 refine⟨?m,?h⟩
 case h=>conv=>lhs;cbv
def aMC:M:=V2.m
theorem bBQ:UL aMC V2.m:=ul
def aZQ:Got (cmp 25 (kpL aC [] [[0,1],[1,2],[1,2,6],[1,2,6],[1,2,6],[1,2,6,7],[7],[]]) (aF Tryz.f312)):=by
 refine⟨?m,?h⟩
 case h=>conv=>lhs;cbv
def aRd:M:=aZQ.m
def HR:MFn:=⟨25,[.tmp 4,.tmp 5],aRd,.pass⟩
theorem aJr:aQ Tryz.prog 312 HR:=fk Tryz.func312 aZQ.h
def TB:Got ((aU aRd).getD 0 .bad):=by
 refine⟨?m,?h⟩
 case h=>conv=>lhs;cbv
def aGC:M:=TB.m
theorem bBH:UL aGC TB.m:=ul
def aQD:Got (cmp 7 (kpL aC [] [[0],[2,4]]) (aF Tryz.f313)):=by
 refine⟨?m,?h⟩
 case h=>conv=>lhs;cbv
def a6r:M:=aQD.m
def aBp:MFn:=⟨7,[.cell 4 118],a6r,.shut⟩
theorem aLH:aQ Tryz.prog 313 aBp:=fk Tryz.func313 aQD.h
def aXL:Got (cmp 23 (kpL aC [] [[0,1],[1,2,4],[1,2,4,5],[1,2,4,5,6],[1,2,4,5,6],[2,4]]) (aF Tryz.f314)):=by
 refine⟨?m,?h⟩
 case h=>conv=>lhs;cbv
def a9u:M:=aXL.m
def aCr:MFn:=⟨23,[.cell 4 118],a9u,.shut⟩
theorem aFT:aQ Tryz.prog 314 aCr:=fk Tryz.func314 aXL.h
def aXy:Got (cmp 55 (kpL aC [] [[0,1],[1,2],[1,2,6],[1,2,6],[1,2,6],[1,6,7],[1,6,7],[1,6,7],[1,8],[],[8]]) (aF Tryz.f315)):=by
 refine⟨?m,?h⟩
 case h=>conv=>lhs;cbv
def a4P:M:=aXy.m
def MK:MFn:=⟨55,[.tmp 4,.tmp 5],a4P,.pass⟩
theorem aHe:aQ Tryz.prog 315 MK:=fk Tryz.func315 aXy.h
def aPE:Got (cmp 26 (kpL aC [] [[0,1],[1,2],[1,2,6],[1,2,6],[1,2,6],[1,2,6,7],[7],[]]) (aF Tryz.f316)):=by
 refine⟨?m,?h⟩
 case h=>conv=>lhs;cbv
def aWv:M:=aPE.m
def HQ:MFn:=⟨26,[.tmp 4,.tmp 5],aWv,.pass⟩
theorem aJz:aQ Tryz.prog 316 HQ:=fk Tryz.func316 aPE.h
def V9:Got ((aU aWv).getD 0 .bad):=by
 refine⟨?m,?h⟩
 case h=>conv=>lhs;cbv
def aIp:M:=V9.m
theorem bBS:UL aIp V9.m:=ul
def aXW:Got (cmp 37 (kpL aC [] [[0],[1],[1,3],[1,3,7,8],[1,3,7,8],[1,3,5,7,8],[1,3,4,5,7,8],[1,3,5,7,8],[],[1,3,5,7,8],[],[1,3,7,8],[]]) (aF Tryz.f330)):=by
 refine⟨?m,?h⟩
 case h=>conv=>lhs;cbv
def a0H:M:=aXW.m
def JP:MFn:=⟨37,[.tmp 2],a0H,.shut⟩
theorem aMh:aQ Tryz.prog 330 JP:=fk Tryz.func330 aXW.h
def D5:Got ((aU a0H).getD 0 .bad):=by
 refine⟨?m,?h⟩
 case h=>conv=>lhs;cbv
def ET:M:=D5.m
theorem aMQ:UL ET D5.m:=ul
def aRi:Got (cmp 34 (kpL aC [] [[0,1],[0,6,7,8],[0,6,7,8],[0,5,6,7,8],[0,5,6,7,8],[0,6,7,8]]) (aF Tryz.f331)):=by
 refine⟨?m,?h⟩
 case h=>conv=>lhs;reduce
def aVu:M:=aRi.m
def BO:MFn:=⟨34,[],aVu,.pass⟩
theorem aGO:aQ Tryz.prog 331 BO:=fk Tryz.func331 aRi.h
def UF:Got ((aU aVu).getD 0 .bad):=by
 refine⟨?m,?h⟩
 case h=>conv=>lhs;cbv
def aMm:M:=UF.m
theorem bBJ:UL aMm UF.m:=ul
def aVv:Got (cmp 13 (kpL aC [] [[0],[0]]) (aF Tryz.f332)):=by
 refine⟨?m,?h⟩
 case h=>conv=>lhs;reduce
def a7z:M:=aVv.m
def TK:MFn:=⟨13,[.tmp 2],a7z,.pass⟩
theorem aK0:aQ Tryz.prog 332 TK:=fk Tryz.func332 aVv.h
def aQY:Got (cmp 21 (kpL aC [] [[0,1,2],[2,3,4],[2,4,7,8],[],[2,4,7]]) (aF Tryz.f333)):=by
 refine⟨?m,?h⟩
 case h=>conv=>lhs;cbv
def a7R:M:=aQY.m
def KD:MFn:=⟨21,[.tmp 6],a7R,.shut⟩
theorem aNk:aQ Tryz.prog 333 KD:=fk Tryz.func333 aQY.h
def aXF:Got (cmp 27 (kpL aC [] [[0,1],[1,2],[1,2,6],[1,2,6],[2],[1,2,6],[1,2],[1,2,6],[1,2],[2],[1]]) (aF Tryz.f334)):=by
 refine⟨?m,?h⟩
 case h=>conv=>lhs;cbv
def a4q:M:=aXF.m
def KM:MFn:=⟨27,[.tmp 4],a4q,.shut⟩
theorem aLJ:aQ Tryz.prog 334 KM:=fk Tryz.func334 aXF.h
def aVx:Got (cmp 28 (kpL aC [] [[0,1],[1,2,4],[2,4],[1,2,4]]) (aF Tryz.f335)):=by
 refine⟨?m,?h⟩
 case h=>conv=>lhs;reduce
def a52:M:=aVx.m
def MD:MFn:=⟨28,[.cell 4 118],a52,.shut⟩
theorem aJJ:aQ Tryz.prog 335 MD:=fk Tryz.func335 aVx.h
def aXG:Got (cmp 28 (kpL aC [] [[0,1],[1,2,4],[2,4],[1,2,4]]) (aF Tryz.f336)):=by
 refine⟨?m,?h⟩
 case h=>conv=>lhs;reduce
def a4s:M:=aXG.m
def JS:MFn:=⟨28,[.cell 4 118],a4s,.shut⟩
theorem aLh:aQ Tryz.prog 336 JS:=fk Tryz.func336 aXG.h
def aV1:Got (cmp 45 (kpL aC [6] [[0,1],[1,2,4],[],[1,2,4],[2,4,5],[5],[2,4,5],[2,5],[2,4,5],[2,4,5,6],[6,36],[6,7],[5,6]]) (aF Tryz.f337)):=by
 refine⟨?m,?h⟩
 case h=>conv=>lhs;reduce
def aFz:M:=aV1.m
def HT:MFn:=⟨45,[.tmp 4],aFz,.shut⟩
theorem aKU:aQ Tryz.prog 337 HT:=fk Tryz.func337 aV1.h
def VF:Got ((aU aFz).getD 0 .bad):=by
 refine⟨?m,?h⟩
 case h=>conv=>lhs;cbv
def aI1:M:=VF.m
theorem bBG:UL aI1 VF.m:=ul
def R8:Got ((aU aFz).getD 1 .bad):=by
 refine⟨?m,?h⟩
 case h=>conv=>lhs;cbv
def aLA:M:=R8.m
theorem bBW:UL aLA R8.m:=ul
def a3h:Got (cmp 3 (kpL aC [] [[],[]]) (aF Tryz.f338)):=by
 refine⟨?m,?h⟩
 case h=>conv=>lhs;cbv
def a5p:M:=a3h.m
def aD6:MFn:=⟨3,[.tmp 0],a5p,.shut⟩
theorem aMb:aQ Tryz.prog 338 aD6:=fk Tryz.func338 a3h.h
def a1q:Got (cmp 50 (kpL aC [] [[0],[0],[0],[0],[0]]) (aF Tryz.f339)):=by
 refine⟨?m,?h⟩
 case h=>conv=>lhs;reduce
def aIY:M:=a1q.m
def GZ:MFn:=⟨50,[],aIY,.pass⟩
theorem aLu:aQ Tryz.prog 339 GZ:=fk Tryz.func339 a1q.h
def EV:Got ((aU aIY).getD 0 .bad):=by
 refine⟨?m,?h⟩
 case h=>conv=>lhs;cbv
def WH:M:=EV.m
theorem aHd:UL WH EV.m:=ul
def DX:Got ((aU aIY).getD 1 .bad):=by
 refine⟨?m,?h⟩
 case h=>conv=>lhs;cbv
def VM:M:=DX.m
theorem aFw:UL VM DX.m:=ul
def aUi:Got (cmp 18 (kpL aC [] [[0],[0]]) (aF Tryz.f340)):=by
 refine⟨?m,?h⟩
 case h=>conv=>lhs;reduce
def a6S:M:=aUi.m
def TQ:MFn:=⟨18,[.tmp 2],a6S,.pass⟩
theorem aJ7:aQ Tryz.prog 340 TQ:=fk Tryz.func340 aUi.h
def aYk:Got (cmp 51 (kpL aC [] [[0],[0,2],[0,2,3,4],[0,2,3,4,17],[0,2],[0,2,3,4,17],[0,2],[0,2,3,4],[0,2,3,4,5],[0,2,3,5]]) (aF Tryz.f341)):=by
 refine⟨?m,?h⟩
 case h=>conv=>lhs;reduce
def bA0:M:=aYk.m
def GH:MFn:=⟨51,[.cell 2 325],bA0,.pass⟩
theorem aIC:aQ Tryz.prog 341 GH:=fk Tryz.func341 aYk.h
def aSw:Got (cmp 13 (kpL aC [] [[0],[0]]) (aF Tryz.f342)):=by
 refine⟨?m,?h⟩
 case h=>conv=>lhs;reduce
def bAr:M:=aSw.m
def MN:MFn:=⟨13,[.tmp 2],bAr,.pass⟩
theorem aH3:aQ Tryz.prog 342 MN:=fk Tryz.func342 aSw.h
def aSz:Got (cmp 47 (kpL aC [] [[0],[0],[],[0],[0,4],[0,4,25,26],[0,4,25,26],[0,4,5,25,26],[],[0,4,5,25,26],[0,4,25,26],[4],[],[4]]) (aF Tryz.f343)):=by
 refine⟨?m,?h⟩
 case h=>conv=>lhs;cbv
def aK6:M:=aSz.m
def BR:MFn:=⟨47,[.tmp 2,.tmp 3],aK6,.shut⟩
theorem aFJ:aQ Tryz.prog 343 BR:=fk Tryz.func343 aSz.h
def UM:Got ((aU aK6).getD 0 .bad):=by
 refine⟨?m,?h⟩
 case h=>conv=>lhs;cbv
def aGn:M:=UM.m
theorem bBZ:UL aGn UM.m:=ul
def a1t:Got (cmp 22 (kpL aC [] [[0,1,2],[0,1,2],[0,2]]) (aF Tryz.f344)):=by
 refine⟨?m,?h⟩
 case h=>conv=>lhs;reduce
def a5K:M:=a1t.m
def aEa:MFn:=⟨22,[],a5K,.pass⟩
theorem aKb:aQ Tryz.prog 344 aEa:=fk Tryz.func344 a1t.h
def a2F:Got (cmp 14 (kpL aC [] [[0],[0],[],[0]]) (aF Tryz.f346)):=by
 refine⟨?m,?h⟩
 case h=>conv=>lhs;cbv
def a6D:M:=a2F.m
def aAm:MFn:=⟨14,[.tmp 2],a6D,.shut⟩
theorem aKq:aQ Tryz.prog 346 aAm:=fk Tryz.func346 a2F.h
def aRb:Got (cmp 6 (kpL aC [] [[0],[0]]) (aF Tryz.f348)):=by
 refine⟨?m,?h⟩
 case h=>conv=>lhs;cbv
def a8z:M:=aRb.m
def aEO:MFn:=⟨6,[.tmp 2],a8z,.shut⟩
theorem aIz:aQ Tryz.prog 348 aEO:=fk Tryz.func348 aRb.h
def a25:Got (cmp 4 (kpL aC [] [[0],[1]]) (aF Tryz.f349)):=by
 refine⟨?m,?h⟩
 case h=>conv=>lhs;cbv
def a79:M:=a25.m
def TO:MFn:=⟨4,[.tmp 2],a79,.pass⟩
theorem aI4:aQ Tryz.prog 349 TO:=fk Tryz.func349 a25.h
def aPQ:Got (cmp 15 (kpL aC [] [[0,1],[1,2,4],[2,4]]) (aF Tryz.f350)):=by
 refine⟨?m,?h⟩
 case h=>conv=>lhs;cbv
def a8k:M:=aPQ.m
def HW:MFn:=⟨15,[.cell 4 50],a8k,.shut⟩
theorem aL0:aQ Tryz.prog 350 HW:=fk Tryz.func350 aPQ.h
def aXY:Got (cmp 39 (kpL aC [] [[0,1],[1,2,4],[2,4,5],[2,4,5],[2,4,5],[2,4],[2,4]]) (aF Tryz.f351)):=by
 refine⟨?m,?h⟩
 case h=>conv=>lhs;cbv
def a5l:M:=aXY.m
def JF:MFn:=⟨39,[.cell 4 50],a5l,.shut⟩
theorem aLq:aQ Tryz.prog 351 JF:=fk Tryz.func351 aXY.h
def aS7:Got (cmp 16 (kpL aC [] [[0,1],[1,2,4],[2,4]]) (aF Tryz.f352)):=by
 refine⟨?m,?h⟩
 case h=>conv=>lhs;cbv
def a3P:M:=aS7.m
def JT:MFn:=⟨16,[.cell 4 50],a3P,.shut⟩
theorem aI2:aQ Tryz.prog 352 JT:=fk Tryz.func352 aS7.h
def aYf:Got (cmp 46 (kpL aC [] [[0],[0],[0,3],[0,3,4],[3],[3]]) (aF Tryz.f353)):=by
 refine⟨?m,?h⟩
 case h=>conv=>lhs;reduce
def bAL:M:=aYf.m
def LG:MFn:=⟨46,[.tmp 2],bAL,.pass⟩
theorem aKK:aQ Tryz.prog 353 LG:=fk Tryz.func353 aYf.h
def aUA:Got (cmp 28 (kpL aC [] [[0],[0],[0,3],[0,3],[3]]) (aF Tryz.f354)):=by
 refine⟨?m,?h⟩
 case h=>conv=>lhs;cbv
def aTa:M:=aUA.m
def GT:MFn:=⟨28,[.tmp 2],aTa,.pass⟩
theorem aMy:aQ Tryz.prog 354 GT:=fk Tryz.func354 aUA.h
def EW:Got ((aU aTa).getD 0 .bad):=by
 refine⟨?m,?h⟩
 case h=>conv=>lhs;cbv
def RR:M:=EW.m
theorem aNr:UL RR EW.m:=ul
def a3B:Got (cmp 29 (kpL aC [] [[0],[0],[0,3],[0,3],[3]]) (aF Tryz.f355)):=by
 refine⟨?m,?h⟩
 case h=>conv=>lhs;cbv
def aSp:M:=a3B.m
def IB:MFn:=⟨29,[.tmp 2],aSp,.pass⟩
theorem aNc:aQ Tryz.prog 355 IB:=fk Tryz.func355 a3B.h
def DP:Got ((aU aSp).getD 0 .bad):=by
 refine⟨?m,?h⟩
 case h=>conv=>lhs;cbv
def V0:M:=DP.m
theorem aM6:UL V0 DP.m:=ul
def aUZ:Got (cmp 15 (kpL aC [] [[0,1],[0,1],[0,1]]) (aF Tryz.f356)):=by
 refine⟨?m,?h⟩
 case h=>conv=>lhs;cbv
def aYK:M:=aUZ.m
def UA:MFn:=⟨15,[],aYK,.pass⟩
theorem aLp:aQ Tryz.prog 356 UA:=fk Tryz.func356 aUZ.h
def U0:Got ((aU aYK).getD 0 .bad):=by
 refine⟨?m,?h⟩
 case h=>conv=>lhs;cbv
def aLb:M:=U0.m
theorem bBL:UL aLb U0.m:=ul
def a0i:Got (cmp 35 (kpL aC [] [[0],[0],[0],[0],[0],[0],[0],[0]]) (aF Tryz.f357)):=by
 refine⟨?m,?h⟩
 case h=>conv=>lhs;cbv
def bAj:M:=a0i.m
def J9:MFn:=⟨35,[.tmp 2],bAj,.shut⟩
theorem aHc:aQ Tryz.prog 357 J9:=fk Tryz.func357 a0i.h
def aQ8:List (Nat×List Value):=[(8,[.int .u8 0,.int .u8 1,.int .u8 28,.int .u8 2,.int .u8 29,.int .u8 14,.int .u8 24,.int .u8 3,.int .u8 30,.int .u8 22,.int .u8 20,.int .u8 15,.int .u8 25,.int .u8 17,.int .u8 4,.int .u8 8,.int .u8 31,.int .u8 27,.int .u8 13,.int .u8 23,.int .u8 21,.int .u8 19,.int .u8 16,.int .u8 7,.int .u8 26,.int .u8 12,.int .u8 18,.int .u8 6,.int .u8 11,.int .u8 5,.int .u8 10,.int .u8 9]),(9,[.int .u8 0,.int .u8 1,.int .u8 56,.int .u8 2,.int .u8 57,.int .u8 49,.int .u8 28,.int .u8 3,.int .u8 61,.int .u8 58,.int .u8 42,.int .u8 50,.int .u8 38,.int .u8 29,.int .u8 17,.int .u8 4,.int .u8 62,.int .u8 47,.int .u8 59,.int .u8 36,.int .u8 45,.int .u8 43,.int .u8 51,.int .u8 22,.int .u8 53,.int .u8 39,.int .u8 33,.int .u8 30,.int .u8 24,.int .u8 18,.int .u8 12,.int .u8 5,.int .u8 63,.int .u8 55,.int .u8 48,.int .u8 27,.int .u8 60,.int .u8 41,.int .u8 37,.int .u8 16,.int .u8 46,.int .u8 35,.int .u8 44,.int .u8 21,.int .u8 52,.int .u8 32,.int .u8 23,.int .u8 11,.int .u8 54,.int .u8 26,.int .u8 40,.int .u8 15,.int .u8 34,.int .u8 20,.int .u8 31,.int .u8 10,.int .u8 25,.int .u8 14,.int .u8 19,.int .u8 9,.int .u8 13,.int .u8 8,.int .u8 7,.int .u8 6]),(5,[.int .u64 1,.int .u64 10,.int .u64 100,.int .u64 1000,.int .u64 10000,.int .u64 100000,.int .u64 1000000,.int .u64 10000000,.int .u64 100000000,.int .u64 1000000000,.int .u64 10000000000,.int .u64 100000000000,.int .u64 1000000000000,.int .u64 10000000000000,.int .u64 100000000000000,.int .u64 1000000000000000,.int .u64 10000000000000000,.int .u64 100000000000000000,.int .u64 1000000000000000000,.int .u64 10000000000000000000]),(0,[.int .i64 4,.int .i64 2,.int .i64 4,.int .i64 4,.int .i64 4]),(4,[.int .u8 0,.int .u8 35,.int .u8 38,.int .u8 29,.int .u8 7,.int .u8 7,.int .u8 15,.int .u8 32,.int .u8 92]),(2,[.int .u8 0,.int .u8 1,.int .u8 1,.int .u8 1,.int .u8 3,.int .u8 3,.int .u8 2,.int .u8 2,.int .u8 2,.int .u8 2,.int .u8 3,.int .u8 3,.int .u8 3]),(1,[.string ⟨#[]⟩,.string ⟨#[71,101,116,83]⟩,.string ⟨#[71,101,116,77]⟩,.string ⟨#[80,117,116]⟩,.string ⟨#[68,111,110,101]⟩,.string ⟨#[67,111,112,121]⟩,.string ⟨#[70,119,100,83]⟩,.string ⟨#[70,119,100,77]⟩,.string ⟨#[73,110,118]⟩,.string ⟨#[80,117,116,65,99,107]⟩,.string ⟨#[86,97,108,117,101]⟩,.string ⟨#[71,114,97,110,116]⟩,.string ⟨#[73,110,118,65,99,107]⟩])]
def a2E:BT Ty:=(.node 144 VV (.node 56 OJ (.node 36 aKn (.node 23 aIW (.node 5 ty5 (.node 3 ty3 (.node 1 ty1 .nil .nil) (.node 4 ty4 .nil .nil)) (.node 20 aKj (.node 9 ty9 .nil .nil) (.node 22 aHk .nil .nil))) (.node 29 aLB (.node 25 aKG (.node 24 aKv .nil .nil) (.node 27 aF1 .nil .nil)) (.node 33 aKV (.node 31 aKy .nil .nil) (.node 34 aNv .nil .nil)))) (.node 46 aNb (.node 40 aFL (.node 38 aKD (.node 37 aFW .nil .nil) (.node 39 aFP .nil .nil)) (.node 44 aFQ (.node 42 aFA .nil .nil) (.node 45 aMU .nil .nil))) (.node 51 aJn (.node 48 aFZ (.node 47 aNQ .nil .nil) (.node 50 aJL .nil .nil)) (.node 54 aFB (.node 52 aGG .nil .nil) (.node 55 aLW .nil .nil))))) (.node 101 VG (.node 75 aKz (.node 63 aMz (.node 60 XW (.node 58 aHD .nil .nil) (.node 62 aJ8 .nil .nil)) (.node 68 aG8 (.node 65 aGx .nil .nil) (.node 69 aL5 .nil .nil))) (.node 95 aKw (.node 91 aNR (.node 77 aJ3 .nil .nil) (.node 93 aL7 .nil .nil)) (.node 97 OP (.node 96 aK1 .nil .nil) (.node 99 aGh .nil .nil)))) (.node 121 Q5 (.node 115 VL (.node 112 T8 (.node 107 T3 .nil .nil) (.node 114 TX .nil .nil)) (.node 118 SF (.node 116 WT .nil .nil) (.node 119 UR .nil .nil))) (.node 130 VK (.node 125 VC (.node 123 T0 .nil .nil) (.node 127 WL .nil .nil)) (.node 134 UW (.node 131 VU .nil .nil) .nil))))) (.node 320 V4 (.node 215 U9 (.node 177 VJ (.node 167 WP (.node 148 UX (.node 146 RP .nil .nil) (.node 163 SQ .nil .nil)) (.node 171 VI (.node 169 V3 .nil .nil) (.node 172 RJ .nil .nil))) (.node 189 CF (.node 181 VE (.node 179 TD .nil .nil) (.node 185 U8 .nil .nil)) (.node 211 RU (.node 199 SN .nil .nil) (.node 213 R3 .nil .nil)))) (.node 283 WV (.node 254 S9 (.node 240 SE (.node 217 VP .nil .nil) (.node 253 V7 .nil .nil)) (.node 265 R4 (.node 261 RH .nil .nil) (.node 282 VZ .nil .nil))) (.node 299 RG (.node 286 US (.node 285 Q1 .nil .nil) (.node 296 RM .nil .nil)) (.node 316 WD (.node 309 Q3 .nil .nil) (.node 318 SA .nil .nil))))) (.node 362 RE (.node 342 Q6 (.node 329 TA (.node 325 V6 (.node 323 ST .nil .nil) (.node 328 TJ .nil .nil)) (.node 335 RW (.node 332 V5 .nil .nil) (.node 340 WB .nil .nil))) (.node 355 TL (.node 351 UK (.node 344 TI .nil .nil) (.node 352 SW .nil .nil)) (.node 359 VY (.node 358 RN .nil .nil) (.node 360 VS .nil .nil)))) (.node 400 R5 (.node 372 T6 (.node 369 RV (.node 364 TM .nil .nil) (.node 371 VH .nil .nil)) (.node 376 SC (.node 374 SD .nil .nil) (.node 393 RX .nil .nil))) (.node 433 UH (.node 428 RO (.node 405 TU .nil .nil) (.node 430 SL .nil .nil)) (.node 447 SJ (.node 444 UZ .nil .nil) .nil))))))
def aZB:BT MFn:=(.node 171 SV (.node 87 aEl (.node 48 aCk (.node 30 aF0 (.node 17 YE (.node 11 aAK (.node 9 fn9 (.node 8 fn8 (.node 4 fn4 .nil .nil) .nil) (.node 10 ZU .nil .nil)) (.node 15 aDL (.node 14 aXS .nil .nil) (.node 16 XR .nil .nil))) (.node 23 a3r (.node 20 aES (.node 19 aA6 (.node 18 aDv .nil .nil) .nil) (.node 21 a2U .nil .nil)) (.node 28 aBh (.node 27 aE4 .nil .nil) (.node 29 Z6 .nil .nil)))) (.node 39 aU6 (.node 35 aCO (.node 33 aCJ (.node 32 aCx (.node 31 A7 .nil .nil) .nil) (.node 34 X6 .nil .nil)) (.node 37 aSL (.node 36 aFb .nil .nil) (.node 38 aQu .nil .nil))) (.node 44 aC7 (.node 42 aBE (.node 41 aCw (.node 40 aEU .nil .nil) .nil) (.node 43 aEI .nil .nil)) (.node 46 aDZ (.node 45 ZT .nil .nil) (.node 47 aCK .nil .nil))))) (.node 68 aEc (.node 59 YS (.node 53 aUU (.node 51 aTq (.node 50 aXE (.node 49 aCd .nil .nil) .nil) (.node 52 a2d .nil .nil)) (.node 57 aBQ (.node 56 aSd .nil .nil) (.node 58 aDn .nil .nil))) (.node 64 aBw (.node 62 FH (.node 61 aAM (.node 60 aEh .nil .nil) .nil) (.node 63 aEG .nil .nil)) (.node 66 aBL (.node 65 YM .nil .nil) (.node 67 aLL .nil .nil)))) (.node 78 aPC (.node 73 BE (.node 71 aML (.node 70 aDE (.node 69 aGZ .nil .nil) .nil) (.node 72 aAX .nil .nil)) (.node 75 A9 (.node 74 ZZ .nil .nil) (.node 76 aYG .nil .nil))) (.node 83 aKA (.node 81 aAo (.node 80 aC5 (.node 79 a0r .nil .nil) .nil) (.node 82 aCN .nil .nil)) (.node 85 aBo (.node 84 aEb .nil .nil) (.node 86 aEV .nil .nil)))))) (.node 129 BH (.node 111 G9 (.node 102 aCe (.node 93 aWj (.node 91 a2q (.node 89 a2M (.node 88 ZW .nil .nil) .nil) (.node 92 aQE .nil .nil)) (.node 95 aUn (.node 94 aWJ .nil .nil) (.node 101 aA3 .nil .nil))) (.node 107 KO (.node 105 CE (.node 104 aC3 (.node 103 aDO .nil .nil) .nil) (.node 106 KF .nil .nil)) (.node 109 KB (.node 108 CD .nil .nil) (.node 110 FY .nil .nil)))) (.node 120 L3 (.node 116 HA (.node 114 JD (.node 113 CV (.node 112 xA .nil .nil) .nil) (.node 115 IW .nil .nil)) (.node 118 GG (.node 117 LD .nil .nil) (.node 119 KH .nil .nil))) (.node 125 FZ (.node 123 HN (.node 122 J1 (.node 121 MU .nil .nil) .nil) (.node 124 L7 .nil .nil)) (.node 127 WI (.node 126 KC .nil .nil) (.node 128 B5 .nil .nil))))) (.node 147 G5 (.node 138 HD (.node 134 MY (.node 132 JJ (.node 131 HV (.node 130 KR .nil .nil) .nil) (.node 133 GI .nil .nil)) (.node 136 J0 (.node 135 G0 .nil .nil) (.node 137 LF .nil .nil))) (.node 143 aCA (.node 141 LC (.node 140 IK (.node 139 G1 .nil .nil) .nil) (.node 142 LL .nil .nil)) (.node 145 aAP (.node 144 aBr .nil .nil) (.node 146 aDk .nil .nil)))) (.node 163 aDm (.node 153 aB1 (.node 150 I1 (.node 149 J3 (.node 148 TR .nil .nil) .nil) (.node 151 ME .nil .nil)) (.node 161 aB8 (.node 154 IA .nil .nil) (.node 162 aBW .nil .nil))) (.node 167 TP (.node 165 UG (.node 164 aBu .nil .nil) (.node 166 GR .nil .nil)) (.node 169 WJ (.node 168 RI .nil .nil) (.node 170 SG .nil .nil))))))) (.node 254 G4 (.node 217 aB5 (.node 189 TW (.node 180 zN (.node 176 LN (.node 174 L9 (.node 173 S8 (.node 172 WK .nil .nil) .nil) (.node 175 IN .nil .nil)) (.node 178 JC (.node 177 IR .nil .nil) (.node 179 H8 .nil .nil))) (.node 185 Q0 (.node 183 KG (.node 182 GO (.node 181 MW .nil .nil) .nil) (.node 184 JH .nil .nil)) (.node 187 pB (.node 186 LH .nil .nil) (.node 188 MG .nil .nil)))) (.node 198 II (.node 194 F3 (.node 192 I7 (.node 191 JE (.node 190 QY .nil .nil) .nil) (.node 193 L5 .nil .nil)) (.node 196 GS (.node 195 KW .nil .nil) (.node 197 J6 .nil .nil))) (.node 203 U5 (.node 201 MA (.node 200 KY (.node 199 MF .nil .nil) .nil) (.node 202 JV .nil .nil)) (.node 205 aBV (.node 204 yU .nil .nil) (.node 206 JY .nil .nil))))) (.node 236 HK (.node 227 aBq (.node 222 JG (.node 220 IG (.node 219 MP (.node 218 SX .nil .nil) .nil) (.node 221 WO .nil .nil)) (.node 224 WG (.node 223 HI .nil .nil) (.node 226 GX .nil .nil))) (.node 232 HU (.node 230 T4 (.node 229 WF (.node 228 JL .nil .nil) .nil) (.node 231 VX .nil .nil)) (.node 234 GU (.node 233 MJ .nil .nil) (.node 235 I3 .nil .nil)))) (.node 245 LP (.node 241 LE (.node 239 LJ (.node 238 JZ (.node 237 F2 .nil .nil) .nil) (.node 240 IF .nil .nil)) (.node 243 KX (.node 242 HP .nil .nil) (.node 244 G8 .nil .nil))) (.node 250 aCP (.node 248 I9 (.node 247 F6 (.node 246 KT .nil .nil) .nil) (.node 249 U1 .nil .nil)) (.node 252 GP (.node 251 HZ .nil .nil) (.node 253 F7 .nil .nil)))))) (.node 308 KV (.node 290 LT (.node 263 HF (.node 259 G2 (.node 257 LA (.node 256 SM (.node 255 GQ .nil .nil) .nil) (.node 258 H7 .nil .nil)) (.node 261 IC (.node 260 JN .nil .nil) (.node 262 FX .nil .nil))) (.node 286 aFf (.node 284 FW (.node 265 aEu (.node 264 MO .nil .nil) .nil) (.node 285 UQ .nil .nil)) (.node 288 JU (.node 287 IT .nil .nil) (.node 289 KQ .nil .nil)))) (.node 299 KU (.node 295 MI (.node 293 IE (.node 292 KI (.node 291 HE .nil .nil) .nil) (.node 294 IP .nil .nil)) (.node 297 F8 (.node 296 KP .nil .nil) (.node 298 LB .nil .nil))) (.node 304 GC (.node 302 RZ (.node 301 KA (.node 300 MR .nil .nil) .nil) (.node 303 IX .nil .nil)) (.node 306 IS (.node 305 CK .nil .nil) (.node 307 JB .nil .nil))))) (.node 339 GZ (.node 330 JP (.node 313 aBp (.node 311 aCL (.node 310 BM (.node 309 L4 .nil .nil) .nil) (.node 312 HR .nil .nil)) (.node 315 MK (.node 314 aCr .nil .nil) (.node 316 HQ .nil .nil))) (.node 335 MD (.node 333 KD (.node 332 TK (.node 331 BO .nil .nil) .nil) (.node 334 KM .nil .nil)) (.node 337 HT (.node 336 JS .nil .nil) (.node 338 aD6 .nil .nil)))) (.node 350 HW (.node 344 aEa (.node 342 MN (.node 341 GH (.node 340 TQ .nil .nil) .nil) (.node 343 BR .nil .nil)) (.node 348 aEO (.node 346 aAm .nil .nil) (.node 349 TO .nil .nil))) (.node 354 GT (.node 352 JT (.node 351 JF .nil .nil) (.node 353 LG .nil .nil)) (.node 356 UA (.node 355 IB .nil .nil) (.node 357 J9 .nil .nil))))))))
def Cz:Ctx:=⟨⟨a2E.get,⟨wH aQ8,aEx,bDr⟩⟩,aZB.get,WR,ML⟩
theorem FM:kG Tryz.prog Cz:=aDa (by kernel_rfl) ⟨aHj,⟨aUE,⟨a04,⟨aTe,⟨bAk,⟨a7B,⟨a7A,trivial,trivial⟩,⟨a5y,trivial,trivial⟩⟩,⟨a0K,⟨a6f,trivial,trivial⟩,⟨aQw,trivial,trivial⟩⟩⟩,⟨a0U,⟨aSN,⟨aXk,trivial,trivial⟩,⟨a2A,trivial,trivial⟩⟩,⟨aVO,⟨aWl,trivial,trivial⟩,⟨aQ4,trivial,trivial⟩⟩⟩⟩,⟨aSb,⟨aZc,⟨aSB,⟨aRH,trivial,trivial⟩,⟨aPG,trivial,trivial⟩⟩,⟨a0L,⟨aRL,trivial,trivial⟩,⟨aYj,trivial,trivial⟩⟩⟩,⟨aT7,⟨aRr,⟨aYO,trivial,trivial⟩,⟨aPj,trivial,trivial⟩⟩,⟨aOW,⟨aWO,trivial,trivial⟩,⟨aTI,trivial,trivial⟩⟩⟩⟩⟩,⟨aNA,⟨aWc,⟨a08,⟨aXs,⟨aT6,trivial,trivial⟩,⟨aYD,trivial,trivial⟩⟩,⟨aY0,⟨aTX,trivial,trivial⟩,⟨aPY,trivial,trivial⟩⟩⟩,⟨a3f,⟨aTZ,⟨aQa,trivial,trivial⟩,⟨a1L,trivial,trivial⟩⟩,⟨aSx,⟨a0S,trivial,trivial⟩,⟨a2x,trivial,trivial⟩⟩⟩⟩,⟨aIB,⟨aMW,⟨aJS,⟨aIK,trivial,trivial⟩,⟨aJX,trivial,trivial⟩⟩,⟨aIa,⟨aKC,trivial,trivial⟩,⟨aJf,trivial,trivial⟩⟩⟩,⟨aNH,⟨aI8,⟨aH8,trivial,trivial⟩,⟨aH9,trivial,trivial⟩⟩,⟨aH6,⟨aKm,trivial,trivial⟩,trivial⟩⟩⟩⟩⟩,⟨aIw,⟨aL3,⟨aFt,⟨aIk,⟨aIb,⟨aKX,trivial,trivial⟩,⟨aKx,trivial,trivial⟩⟩,⟨aNz,⟨aG3,trivial,trivial⟩,⟨aJk,trivial,trivial⟩⟩⟩,⟨aJ6,⟨aG5,⟨aH7,trivial,trivial⟩,⟨aGR,trivial,trivial⟩⟩,⟨aGH,⟨aHG,trivial,trivial⟩,⟨aHw,trivial,trivial⟩⟩⟩⟩,⟨aJR,⟨aF2,⟨aL2,⟨aMN,trivial,trivial⟩,⟨aIn,trivial,trivial⟩⟩,⟨aMw,⟨aMY,trivial,trivial⟩,⟨aKs,trivial,trivial⟩⟩⟩,⟨aHp,⟨aJu,⟨aNP,trivial,trivial⟩,⟨aNB,trivial,trivial⟩⟩,⟨aFO,⟨aNq,trivial,trivial⟩,⟨aIN,trivial,trivial⟩⟩⟩⟩⟩,⟨aKR,⟨aKi,⟨aFG,⟨aGk,⟨aMZ,trivial,trivial⟩,⟨aFS,trivial,trivial⟩⟩,⟨aMl,⟨aMc,trivial,trivial⟩,⟨aGW,trivial,trivial⟩⟩⟩,⟨aMk,⟨aGE,⟨aGJ,trivial,trivial⟩,⟨aIR,trivial,trivial⟩⟩,⟨aHh,⟨aH2,trivial,trivial⟩,⟨aGQ,trivial,trivial⟩⟩⟩⟩,⟨aIi,⟨aKF,⟨aIQ,⟨aNx,trivial,trivial⟩,⟨aMI,trivial,trivial⟩⟩,⟨aIU,⟨aIT,trivial,trivial⟩,⟨aIq,trivial,trivial⟩⟩⟩,⟨aGq,⟨aLS,⟨aIs,trivial,trivial⟩,⟨aHy,trivial,trivial⟩⟩,⟨aNp,⟨aMO,trivial,trivial⟩,trivial⟩⟩⟩⟩⟩⟩ ⟨aHC,⟨aXo,⟨aXD,⟨a2l,⟨aW2,⟨aUe,⟨a5M,⟨a4S,⟨a59,trivial,trivial⟩,trivial⟩,⟨aPv,trivial,trivial⟩⟩,⟨a0M,⟨a0h,trivial,trivial⟩,⟨a3p,trivial,trivial⟩⟩⟩,⟨aTo,⟨aQM,⟨aVP,⟨aYe,trivial,trivial⟩,trivial⟩,⟨aWp,trivial,trivial⟩⟩,⟨aPV,⟨aYY,trivial,trivial⟩,⟨aPH,trivial,trivial⟩⟩⟩⟩,⟨aYh,⟨aX3,⟨aQP,⟨aTC,⟨aVH,trivial,trivial⟩,trivial⟩,⟨aXU,trivial,trivial⟩⟩,⟨aPw,⟨aYn,trivial,trivial⟩,⟨aTA,trivial,trivial⟩⟩⟩,⟨aPp,⟨aRM,⟨a1y,⟨aUz,trivial,trivial⟩,trivial⟩,⟨aQq,trivial,trivial⟩⟩,⟨a2j,⟨aRZ,trivial,trivial⟩,⟨aZx,trivial,trivial⟩⟩⟩⟩⟩,⟨aVe,⟨aSf,⟨aUt,⟨a2m,⟨aSX,⟨aZK,trivial,trivial⟩,trivial⟩,⟨aQO,trivial,trivial⟩⟩,⟨a1B,⟨aUQ,trivial,trivial⟩,⟨aUJ,trivial,trivial⟩⟩⟩,⟨aXq,⟨aQQ,⟨aXt,⟨a0t,trivial,trivial⟩,trivial⟩,⟨a1o,trivial,trivial⟩⟩,⟨aTJ,⟨aO1,trivial,trivial⟩,⟨aYu,trivial,trivial⟩⟩⟩⟩,⟨a1c,⟨aPT,⟨aPg,⟨a06,⟨a03,trivial,trivial⟩,trivial⟩,⟨aQb,trivial,trivial⟩⟩,⟨aSu,⟨aTb,trivial,trivial⟩,⟨aUk,trivial,trivial⟩⟩⟩,⟨a0d,⟨a1a,⟨aVj,⟨aRN,trivial,trivial⟩,trivial⟩,⟨aZ7,trivial,trivial⟩⟩,⟨aPx,⟨aTD,trivial,trivial⟩,⟨aVU,trivial,trivial⟩⟩⟩⟩⟩⟩,⟨aHL,⟨aM5,⟨aJI,⟨aPb,⟨aQt,⟨aZp,⟨aV3,trivial,trivial⟩,trivial⟩,⟨a3E,trivial,trivial⟩⟩,⟨aWX,⟨aUd,trivial,trivial⟩,⟨aLF,trivial,trivial⟩⟩⟩,⟨aHP,⟨aIg,⟨aKa,⟨aLX,trivial,trivial⟩,trivial⟩,⟨aJe,trivial,trivial⟩⟩,⟨aLv,⟨aKZ,trivial,trivial⟩,⟨aGS,trivial,trivial⟩⟩⟩⟩,⟨aNN,⟨aGM,⟨aGA,⟨aNJ,⟨aLT,trivial,trivial⟩,trivial⟩,⟨aJ1,trivial,trivial⟩⟩,⟨aMA,⟨aIF,trivial,trivial⟩,⟨aMx,trivial,trivial⟩⟩⟩,⟨aIJ,⟨aMr,⟨aJN,⟨aGD,trivial,trivial⟩,trivial⟩,⟨aGj,trivial,trivial⟩⟩,⟨aM7,⟨aHi,trivial,trivial⟩,⟨aFv,trivial,trivial⟩⟩⟩⟩⟩,⟨aKE,⟨aHB,⟨aJ0,⟨aGN,⟨aJb,⟨aMM,trivial,trivial⟩,trivial⟩,⟨aLN,trivial,trivial⟩⟩,⟨aHf,⟨aHx,trivial,trivial⟩,⟨aMp,trivial,trivial⟩⟩⟩,⟨aGd,⟨aM4,⟨aJE,⟨aLY,trivial,trivial⟩,trivial⟩,⟨aMV,trivial,trivial⟩⟩,⟨aK8,⟨aJP,trivial,trivial⟩,⟨aFU,trivial,trivial⟩⟩⟩⟩,⟨aFH,⟨aK9,⟨aJG,⟨aNf,⟨aGm,trivial,trivial⟩,trivial⟩,⟨aL4,trivial,trivial⟩⟩,⟨aGF,⟨aJw,trivial,trivial⟩,⟨aLk,trivial,trivial⟩⟩⟩,⟨aK2,⟨aIj,⟨aGV,trivial,trivial⟩,⟨aJo,trivial,trivial⟩⟩,⟨aHb,⟨aKJ,trivial,trivial⟩,⟨aIV,trivial,trivial⟩⟩⟩⟩⟩⟩⟩,⟨aNO,⟨aHs,⟨aL6,⟨aFF,⟨aLw,⟨aI0,⟨aHr,⟨aF4,trivial,trivial⟩,trivial⟩,⟨aK3,trivial,trivial⟩⟩,⟨aIO,⟨aMR,trivial,trivial⟩,⟨aJa,trivial,trivial⟩⟩⟩,⟨aHN,⟨aKf,⟨aJZ,⟨aIf,trivial,trivial⟩,trivial⟩,⟨aHQ,trivial,trivial⟩⟩,⟨aHz,⟨aHO,trivial,trivial⟩,⟨aGX,trivial,trivial⟩⟩⟩⟩,⟨aF3,⟨aF6,⟨aNd,⟨aME,⟨aNl,trivial,trivial⟩,trivial⟩,⟨aF5,trivial,trivial⟩⟩,⟨aNy,⟨aNj,trivial,trivial⟩,⟨aKo,trivial,trivial⟩⟩⟩,⟨aGe,⟨aMB,⟨aI6,⟨aH4,trivial,trivial⟩,trivial⟩,⟨aGt,trivial,trivial⟩⟩,⟨aM1,⟨aNs,trivial,trivial⟩,⟨aLI,trivial,trivial⟩⟩⟩⟩⟩,⟨aNi,⟨aKQ,⟨aF7,⟨aNe,⟨aGo,⟨aGv,trivial,trivial⟩,trivial⟩,⟨aJx,trivial,trivial⟩⟩,⟨aJ2,⟨aFp,trivial,trivial⟩,⟨aLQ,trivial,trivial⟩⟩⟩,⟨aGi,⟨aGs,⟨aGK,⟨aKO,trivial,trivial⟩,trivial⟩,⟨aFM,trivial,trivial⟩⟩,⟨aF9,⟨aJt,trivial,trivial⟩,⟨aLm,trivial,trivial⟩⟩⟩⟩,⟨aHM,⟨aM2,⟨aJK,⟨aMn,⟨aFC,trivial,trivial⟩,trivial⟩,⟨aFY,trivial,trivial⟩⟩,⟨aHS,⟨aGB,trivial,trivial⟩,⟨aHR,trivial,trivial⟩⟩⟩,⟨aHI,⟨aL8,⟨aFN,⟨aGu,trivial,trivial⟩,trivial⟩,⟨aJ9,trivial,trivial⟩⟩,⟨aKe,⟨aK7,trivial,trivial⟩,⟨aG1,trivial,trivial⟩⟩⟩⟩⟩⟩,⟨aHX,⟨aHg,⟨aIM,⟨aJq,⟨aIe,⟨aIt,⟨aJT,trivial,trivial⟩,trivial⟩,⟨aM9,trivial,trivial⟩⟩,⟨aHH,⟨aKk,trivial,trivial⟩,⟨aLZ,trivial,trivial⟩⟩⟩,⟨aFV,⟨aL1,⟨aMF,⟨aKr,trivial,trivial⟩,trivial⟩,⟨aMj,trivial,trivial⟩⟩,⟨aIo,⟨aNF,trivial,trivial⟩,⟨aH1,trivial,trivial⟩⟩⟩⟩,⟨aJi,⟨aKp,⟨aFu,⟨aHU,⟨aIv,trivial,trivial⟩,trivial⟩,⟨aHY,trivial,trivial⟩⟩,⟨aLM,⟨aLO,trivial,trivial⟩,⟨aMX,trivial,trivial⟩⟩⟩,⟨aFK,⟨aK5,⟨aI5,⟨aJH,trivial,trivial⟩,trivial⟩,⟨aHV,trivial,trivial⟩⟩,⟨aMP,⟨aLs,trivial,trivial⟩,⟨aJD,trivial,trivial⟩⟩⟩⟩⟩,⟨aLu,⟨aMh,⟨aLH,⟨aLj,⟨aJV,⟨aFX,trivial,trivial⟩,trivial⟩,⟨aJr,trivial,trivial⟩⟩,⟨aHe,⟨aFT,trivial,trivial⟩,⟨aJz,trivial,trivial⟩⟩⟩,⟨aJJ,⟨aNk,⟨aK0,⟨aGO,trivial,trivial⟩,trivial⟩,⟨aLJ,trivial,trivial⟩⟩,⟨aKU,⟨aLh,trivial,trivial⟩,⟨aMb,trivial,trivial⟩⟩⟩⟩,⟨aL0,⟨aKb,⟨aH3,⟨aIC,⟨aJ7,trivial,trivial⟩,trivial⟩,⟨aFJ,trivial,trivial⟩⟩,⟨aIz,⟨aKq,trivial,trivial⟩,⟨aI4,trivial,trivial⟩⟩⟩,⟨aMy,⟨aI2,⟨aLq,trivial,trivial⟩,⟨aKK,trivial,trivial⟩⟩,⟨aLp,⟨aNc,trivial,trivial⟩,⟨aHc,trivial,trivial⟩⟩⟩⟩⟩⟩⟩⟩ (aCW (by kernel_rfl)) (ZQ)
theorem aFj:Cz.B 73=some BE:=by rfl
theorem aED:Cz.B 75=some A9:=by rfl
theorem aOO:Cz.T 56=some OJ:=by rfl
theorem a8p:Cz.T 60=some XW:=by rfl
theorem aN5:Cz.T 97=some OP:=by rfl
theorem aZA:Cz.T 189=some CF:=by rfl
def sH(f:FuncId):Bool:=Nat.beq f 73||Nat.beq f 75
def z7(f:FuncId)(zs:List A):Option A:=bif sH f then(match zs with
 |[.sl 0 []]=>some (.sl 0 [])
 |_=>none)else WR f zs
theorem OW(f:FuncId)(hf:sH f=true)(c:Nat):EvQ Cz f [.v (.slice none 0 c)] (.sl 0 []):=by
 simp only[sH,Bool.or_eq_true]at hf
 rcases hf with h|h
 ·obtain rfl:=Nat.eq_of_beq_eq_true h
  refine aX aFj rfl (by simp[BE]) ?_
  simp(disch:=omega)only[go_sem,simprocAttr,aN5,OP,nO,pC,BE,m73,g73]
 ·obtain rfl:=Nat.eq_of_beq_eq_true h
  refine aX aED rfl (by simp[A9]) ?_
  simp(disch:=omega)only[go_sem,simprocAttr,aOO,OJ,nO,pC,A9,m75,g75]
theorem O1(f:FuncId)(hf:sH f=true)(a:Addr)(c:Nat):EvQ Cz f [.v (.slice (some a) 0 c)] (.sl 0 []):=by
 simp only[sH,Bool.or_eq_true]at hf
 rcases hf with h|h
 ·obtain rfl:=Nat.eq_of_beq_eq_true h
  refine aX aFj rfl (by simp[BE]) ?_
  simp(disch:=omega)only[go_sem,simprocAttr,aN5,OP,aZA,CF,nO,pC,BE,m73,g73]
 ·obtain rfl:=Nat.eq_of_beq_eq_true h
  refine aX aED rfl (by simp[A9]) ?_
  simp(disch:=omega)only[go_sem,simprocAttr,aOO,OJ,a8p,XW,nO,pC,A9,m75,g75]
theorem aAt:QOk Cz.T Tryz.prog z7:=by
 intro f zs r h
 unfold z7 at h
 cases hb:sH f with
 |false =>
  rw[hb,cond_false]at h
  exact FM.ext f zs r h
 |true =>
  rw[hb,cond_true]at h
  split at h
  ·simp only[Option.some.injEq]at h
   subst h
   have hent:mX Tryz.prog f:=by
    simp only[sH,Bool.or_eq_true]at hb
    rcases hb with h|h
    ·obtain rfl:=Nat.eq_of_beq_eq_true h
     exact FM.enters aFj
    ·obtain rfl:=Nat.eq_of_beq_eq_true h
     exact FM.enters aED
   refine .inr ⟨hent,fun own w ys ho hgl hr=>?_⟩
   obtain⟨y,ys',rfl,hy,hn⟩:∃ y ys',ys=y::ys'∧R [] own w (.sl 0 []) y∧RL [] own w [] ys':=by
    rw[RL]at hr
    obtain⟨y,ys',e,h1,h2⟩:=hr
    exact⟨y,ys',e,h1,h2⟩
   have key:∀ a c,y=.slice a 0 c→EvQ Cz f [.v (.slice a 0 c)] (.sl 0 []):=fun a c _=>by
    cases a with
    |none=>exact OW f hb c
    |some a=>exact O1 f hb a c
   have fin:∀ a c,y=.slice a 0 c→Go.Calls Tryz.prog f (y::ys').toArray w fun e w'=>∃ v,e=.returned v∧Grow w w'∧R [] own w' (.sl 0 []) v:=fun a c e=>by
    subst e
    obtain⟨N,hN⟩:=key a c rfl
    rcases(jB FM N).1 f _ _ hN with h|⟨-,h⟩
    ·obtain⟨v,h1,-⟩:=h [] own w _ (RL.cons (by rw[R]) hn)
     rw[hent]at h1
     simp at h1
    ·exact h own w _ ho hgl (RL.cons (by rw[R]) hn)
   rw[R]at hy
   rcases hy with⟨-,-,a,c,rfl⟩|⟨g,off,cap,xs,rfl,h0,-⟩
   ·exact fin _ _ rfl
   ·exact fin _ _ rfl
  ·cases h
def Cy:Ctx:=⟨Cz.T,Cz.B,z7,Cz.XO⟩
theorem rM:kG Tryz.prog Cy:=⟨FM.mixed,FM.types,FM.loops,FM.fns,aAt,FM.extO⟩
noncomputable def aDH(f:FuncId):Option (List A→aG→Option (A×aG)):=bif Nat.beq f 225 then some (qR Cy)else ML f
theorem aBN:∀ f g zs H x H',aDH f=some g→g zs H=some (x,H')→q8 Cy.T Tryz.prog f zs H x H':=by
 intro f g zs H x H' hg h
 unfold aDH at hg
 cases h1:Nat.beq f 225 with
 |true =>
 obtain rfl:=Nat.eq_of_beq_eq_true h1
 rw[h1,cond_true]at hg
 obtain rfl:=Option.some.inj hg
 exact YF rM h
 |false =>
 rw[h1,cond_false]at hg
 exact rM.extO f g zs H x H' hg h
noncomputable def Cx:Ctx:=⟨Cy.T,Cy.B,Cy.X,aDH⟩
theorem aCX:kG Tryz.prog Cx:=⟨rM.mixed,rM.types,rM.loops,rM.fns,rM.ext,aBN⟩
theorem aO6:Cy.B 180=some zN:=by rfl
theorem a0m:aJ Cy 180=true:=by rfl
theorem aYg:Cy.B 182=some GO:=by rfl
theorem aOV:aJ Cy 182=true:=by rfl
theorem bCe:Cx.T 1=some ty1:=by rfl
theorem bCo:Cx.T 3=some ty3:=by rfl
theorem bCU:Cx.T 4=some ty4:=by rfl
theorem bDn:Cx.T 5=some ty5:=by rfl
theorem bCw:Cx.T 9=some ty9:=by rfl
theorem a9N:Cx.T 20=some aKj:=by rfl
theorem a6M:Cx.T 22=some aHk:=by rfl
theorem a9j:Cx.T 23=some aIW:=by rfl
theorem a9B:Cx.T 24=some aKv:=by rfl
theorem a8E:Cx.T 25=some aKG:=by rfl
theorem a4y:Cx.T 27=some aF1:=by rfl
theorem bAD:Cx.T 29=some aLB:=by rfl
theorem a77:Cx.T 31=some aKy:=by rfl
theorem bAM:Cx.T 33=some aKV:=by rfl
theorem a7X:Cx.T 34=some aNv:=by rfl
theorem a40:Cx.T 36=some aKn:=by rfl
theorem a8W:Cx.T 37=some aFW:=by rfl
theorem a4v:Cx.T 38=some aKD:=by rfl
theorem a7l:Cx.T 39=some aFP:=by rfl
theorem a8K:Cx.T 40=some aFL:=by rfl
theorem a5g:Cx.T 42=some aFA:=by rfl
theorem a7j:Cx.T 44=some aFQ:=by rfl
theorem a30:Cx.T 45=some aMU:=by rfl
theorem a6m:Cx.T 46=some aNb:=by rfl
theorem bBk:Cx.T 47=some aNQ:=by rfl
theorem a4i:Cx.T 48=some aFZ:=by rfl
theorem a7O:Cx.T 50=some aJL:=by rfl
theorem a5d:Cx.T 51=some aJn:=by rfl
theorem a7G:Cx.T 52=some aGG:=by rfl
theorem a8o:Cx.T 54=some aFB:=by rfl
theorem a9i:Cx.T 55=some aLW:=by rfl
theorem bBg:Cx.T 56=some OJ:=by rfl
theorem a9a:Cx.T 58=some aHD:=by rfl
theorem a96:Cx.T 60=some XW:=by rfl
theorem a7N:Cx.T 62=some aJ8:=by rfl
theorem a3Z:Cx.T 63=some aMz:=by rfl
theorem a7g:Cx.T 65=some aGx:=by rfl
theorem a5T:Cx.T 68=some aG8:=by rfl
theorem a3N:Cx.T 69=some aL5:=by rfl
theorem bBp:Cx.T 75=some aKz:=by rfl
theorem bAl:Cx.T 77=some aJ3:=by rfl
theorem a5H:Cx.T 91=some aNR:=by rfl
theorem a5D:Cx.T 93=some aL7:=by rfl
theorem a5c:Cx.T 95=some aKw:=by rfl
theorem a5t:Cx.T 96=some aK1:=by rfl
theorem a6o:Cx.T 97=some OP:=by rfl
theorem bAw:Cx.T 99=some aGh:=by rfl
theorem a2Q:Cx.T 101=some VG:=by rfl
theorem aR0:Cx.T 107=some T3:=by rfl
theorem a2B:Cx.T 112=some T8:=by rfl
theorem a2W:Cx.T 114=some TX:=by rfl
theorem a2w:Cx.T 115=some VL:=by rfl
theorem aRe:Cx.T 116=some WT:=by rfl
theorem aSk:Cx.T 118=some SF:=by rfl
theorem a0F:Cx.T 119=some UR:=by rfl
theorem aSh:Cx.T 121=some Q5:=by rfl
theorem aYw:Cx.T 123=some T0:=by rfl
theorem a1r:Cx.T 125=some VC:=by rfl
theorem a09:Cx.T 127=some WL:=by rfl
theorem aUl:Cx.T 130=some VK:=by rfl
theorem aXR:Cx.T 131=some VU:=by rfl
theorem aRW:Cx.T 134=some UW:=by rfl
theorem a29:Cx.T 144=some VV:=by rfl
theorem aVc:Cx.T 146=some RP:=by rfl
theorem a2G:Cx.T 148=some UX:=by rfl
theorem aZW:Cx.T 163=some SQ:=by rfl
theorem a1M:Cx.T 167=some WP:=by rfl
theorem aP4:Cx.T 169=some V3:=by rfl
theorem a2J:Cx.T 171=some VI:=by rfl
theorem aXi:Cx.T 172=some RJ:=by rfl
theorem aUO:Cx.T 177=some VJ:=by rfl
theorem aPP:Cx.T 179=some TD:=by rfl
theorem aTt:Cx.T 181=some VE:=by rfl
theorem aPs:Cx.T 185=some U8:=by rfl
theorem aVi:Cx.T 189=some CF:=by rfl
theorem a0b:Cx.T 199=some SN:=by rfl
theorem aUu:Cx.T 211=some RU:=by rfl
theorem a3C:Cx.T 213=some R3:=by rfl
theorem aPm:Cx.T 215=some U9:=by rfl
theorem aXC:Cx.T 217=some VP:=by rfl
theorem a2X:Cx.T 240=some SE:=by rfl
theorem aXj:Cx.T 253=some V7:=by rfl
theorem aTK:Cx.T 254=some S9:=by rfl
theorem aUx:Cx.T 261=some RH:=by rfl
theorem a1N:Cx.T 265=some R4:=by rfl
theorem aTm:Cx.T 282=some VZ:=by rfl
theorem aZH:Cx.T 283=some WV:=by rfl
theorem aTx:Cx.T 285=some Q1:=by rfl
theorem aZb:Cx.T 286=some US:=by rfl
theorem aSv:Cx.T 296=some RM:=by rfl
theorem aPz:Cx.T 299=some RG:=by rfl
theorem aQo:Cx.T 309=some Q3:=by rfl
theorem aVF:Cx.T 316=some WD:=by rfl
theorem aRV:Cx.T 318=some SA:=by rfl
theorem aRJ:Cx.T 320=some V4:=by rfl
theorem aZy:Cx.T 323=some ST:=by rfl
theorem a02:Cx.T 325=some V6:=by rfl
theorem aWR:Cx.T 328=some TJ:=by rfl
theorem aR3:Cx.T 329=some TA:=by rfl
theorem aZo:Cx.T 332=some V5:=by rfl
theorem a3y:Cx.T 335=some RW:=by rfl
theorem aWF:Cx.T 340=some WB:=by rfl
theorem a1v:Cx.T 342=some Q6:=by rfl
theorem aP5:Cx.T 344=some TI:=by rfl
theorem aWD:Cx.T 351=some UK:=by rfl
theorem aPM:Cx.T 352=some SW:=by rfl
theorem a1C:Cx.T 355=some TL:=by rfl
theorem aUj:Cx.T 358=some RN:=by rfl
theorem aTs:Cx.T 359=some VY:=by rfl
theorem aQS:Cx.T 360=some VS:=by rfl
theorem aSR:Cx.T 362=some RE:=by rfl
theorem aUy:Cx.T 364=some TM:=by rfl
theorem aTN:Cx.T 369=some RV:=by rfl
theorem aVh:Cx.T 371=some VH:=by rfl
theorem a2Y:Cx.T 372=some T6:=by rfl
theorem a2V:Cx.T 374=some SD:=by rfl
theorem aVA:Cx.T 376=some SC:=by rfl
theorem a1S:Cx.T 393=some RX:=by rfl
theorem aVN:Cx.T 400=some R5:=by rfl
theorem aXd:Cx.T 405=some TU:=by rfl
theorem aUv:Cx.T 428=some RO:=by rfl
theorem aVt:Cx.T 430=some SL:=by rfl
theorem aXB:Cx.T 433=some UH:=by rfl
theorem a2u:Cx.T 444=some UZ:=by rfl
theorem a14:Cx.T 447=some SJ:=by rfl
theorem a94:Cx.B 4=some fn4:=by rfl
theorem bAQ:Cx.B 8=some fn8:=by rfl
theorem bCv:Cx.B 9=some fn9:=by rfl
theorem a8a:Cx.B 10=some ZU:=by rfl
theorem a9l:Cx.B 11=some aAK:=by rfl
theorem a8u:Cx.B 15=some aDL:=by rfl
theorem aOz:Cx.B 16=some XR:=by rfl
theorem aOs:Cx.B 17=some YE:=by rfl
theorem a8N:Cx.B 18=some aDv:=by rfl
theorem a9g:Cx.B 19=some aA6:=by rfl
theorem a5b:Cx.B 20=some aES:=by rfl
theorem a68:Cx.B 27=some aE4:=by rfl
theorem bAy:Cx.B 28=some aBh:=by rfl
theorem a5o:Cx.B 29=some Z6:=by rfl
theorem a74:Cx.B 30=some aF0:=by rfl
theorem B6:Cx.B 31=some A7:=by rfl
theorem a4l:Cx.B 32=some aCx:=by rfl
theorem a4E:Cx.B 33=some aCJ:=by rfl
theorem aOR:Cx.B 34=some X6:=by rfl
theorem a3K:Cx.B 35=some aCO:=by rfl
theorem a44:Cx.B 36=some aFb:=by rfl
theorem aOP:Cx.B 40=some aEU:=by rfl
theorem a9U:Cx.B 41=some aCw:=by rfl
theorem bBz:Cx.B 42=some aBE:=by rfl
theorem a35:Cx.B 43=some aEI:=by rfl
theorem a5x:Cx.B 44=some aC7:=by rfl
theorem a4g:Cx.B 45=some ZT:=by rfl
theorem bBy:Cx.B 46=some aDZ:=by rfl
theorem a8D:Cx.B 47=some aCK:=by rfl
theorem a6Q:Cx.B 48=some aCk:=by rfl
theorem a5w:Cx.B 49=some aCd:=by rfl
theorem a5h:Cx.B 57=some aBQ:=by rfl
theorem a9M:Cx.B 58=some aDn:=by rfl
theorem aN2:Cx.B 59=some YS:=by rfl
theorem bAF:Cx.B 60=some aEh:=by rfl
theorem bBm:Cx.B 61=some aAM:=by rfl
theorem H6:Cx.B 62=some FH:=by rfl
theorem a7o:Cx.B 63=some aEG:=by rfl
theorem a7i:Cx.B 64=some aBw:=by rfl
theorem aNY:Cx.B 65=some YM:=by rfl
theorem bBb:Cx.B 66=some aBL:=by rfl
theorem bAm:Cx.B 67=some aLL:=by rfl
theorem a9A:Cx.B 68=some aEc:=by rfl
theorem bAZ:Cx.B 69=some aGZ:=by rfl
theorem a8h:Cx.B 70=some aDE:=by rfl
theorem R9:Cx.B 71=some aML:=by rfl
theorem a7F:Cx.B 72=some aAX:=by rfl
theorem bAa:Cx.B 73=some BE:=by rfl
theorem a85:Cx.B 74=some ZZ:=by rfl
theorem a4x:Cx.B 75=some A9:=by rfl
theorem a7p:Cx.B 80=some aC5:=by rfl
theorem a7K:Cx.B 81=some aAo:=by rfl
theorem a8r:Cx.B 82=some aCN:=by rfl
theorem a7c:Cx.B 83=some aKA:=by rfl
theorem a92:Cx.B 84=some aEb:=by rfl
theorem a39:Cx.B 85=some aBo:=by rfl
theorem a89:Cx.B 86=some aEV:=by rfl
theorem bA7:Cx.B 87=some aEl:=by rfl
theorem bBB:Cx.B 88=some ZW:=by rfl
theorem aBH:Cx.B 105=some CE:=by rfl
theorem aPk:Cx.B 106=some KF:=by rfl
theorem aX5:Cx.B 107=some KO:=by rfl
theorem aAH:Cx.B 108=some CD:=by rfl
theorem aWo:Cx.B 109=some KB:=by rfl
theorem aT3:Cx.B 110=some FY:=by rfl
theorem a1j:Cx.B 111=some G9:=by rfl
theorem a1Y:Cx.B 112=some xA:=by rfl
theorem aE7:Cx.B 113=some CV:=by rfl
theorem a1J:Cx.B 114=some JD:=by rfl
theorem aRA:Cx.B 115=some IW:=by rfl
theorem aQf:Cx.B 116=some HA:=by rfl
theorem a2D:Cx.B 117=some LD:=by rfl
theorem aPl:Cx.B 118=some GG:=by rfl
theorem aXQ:Cx.B 119=some KH:=by rfl
theorem aZf:Cx.B 120=some L3:=by rfl
theorem aYT:Cx.B 121=some MU:=by rfl
theorem aVZ:Cx.B 122=some J1:=by rfl
theorem a3A:Cx.B 123=some HN:=by rfl
theorem aSW:Cx.B 124=some L7:=by rfl
theorem aQN:Cx.B 125=some FZ:=by rfl
theorem aYB:Cx.B 126=some KC:=by rfl
theorem a0T:Cx.B 127=some WI:=by rfl
theorem aAj:Cx.B 128=some B5:=by rfl
theorem aAW:Cx.B 129=some BH:=by rfl
theorem aSj:Cx.B 130=some KR:=by rfl
theorem aWt:Cx.B 131=some HV:=by rfl
theorem aTg:Cx.B 132=some JJ:=by rfl
theorem a2i:Cx.B 133=some GI:=by rfl
theorem a2c:Cx.B 134=some MY:=by rfl
theorem a24:Cx.B 135=some G0:=by rfl
theorem aQ5:Cx.B 136=some J0:=by rfl
theorem aR1:Cx.B 137=some LF:=by rfl
theorem aXf:Cx.B 138=some HD:=by rfl
theorem aO5:Cx.B 139=some G1:=by rfl
theorem aVn:Cx.B 140=some IK:=by rfl
theorem aZ1:Cx.B 141=some LC:=by rfl
theorem aXm:Cx.B 142=some LL:=by rfl
theorem a2Z:Cx.B 147=some G5:=by rfl
theorem aRP:Cx.B 148=some TR:=by rfl
theorem aYs:Cx.B 149=some J3:=by rfl
theorem aVy:Cx.B 150=some I1:=by rfl
theorem aQg:Cx.B 151=some ME:=by rfl
theorem aQz:Cx.B 154=some IA:=by rfl
theorem a1V:Cx.B 165=some UG:=by rfl
theorem aSP:Cx.B 166=some GR:=by rfl
theorem fE:Cx.B 167=some TP:=by rfl
theorem aCH:Cx.B 168=some RI:=by rfl
theorem aCa:Cx.B 169=some WJ:=by rfl
theorem aTc:Cx.B 170=some SG:=by rfl
theorem aUg:Cx.B 171=some SV:=by rfl
theorem PO:Cx.B 172=some WK:=by rfl
theorem jO:Cx.B 173=some S8:=by rfl
theorem aWS:Cx.B 174=some L9:=by rfl
theorem a2R:Cx.B 175=some IN:=by rfl
theorem aRh:Cx.B 176=some LN:=by rfl
theorem aTy:Cx.B 177=some IR:=by rfl
theorem a1f:Cx.B 178=some JC:=by rfl
theorem aU1:Cx.B 179=some H8:=by rfl
theorem aWQ:Cx.B 180=some zN:=by rfl
theorem aX6:Cx.B 181=some MW:=by rfl
theorem aWB:Cx.B 183=some KG:=by rfl
theorem a2y:Cx.B 184=some JH:=by rfl
theorem vM:Cx.B 185=some Q0:=by rfl
theorem a3s:Cx.B 186=some LH:=by rfl
theorem pU:Cx.B 187=some pB:=by rfl
theorem a07:Cx.B 188=some MG:=by rfl
theorem AV:Cx.B 189=some TW:=by rfl
theorem zM:Cx.B 190=some QY:=by rfl
theorem aQd:Cx.B 191=some JE:=by rfl
theorem aZ9:Cx.B 192=some I7:=by rfl
theorem aQh:Cx.B 193=some L5:=by rfl
theorem aPL:Cx.B 194=some F3:=by rfl
theorem aRm:Cx.B 195=some KW:=by rfl
theorem aY1:Cx.B 196=some GS:=by rfl
theorem a0w:Cx.B 197=some J6:=by rfl
theorem aTM:Cx.B 198=some II:=by rfl
theorem aU7:Cx.B 199=some MF:=by rfl
theorem aRk:Cx.B 200=some KY:=by rfl
theorem aP6:Cx.B 201=some MA:=by rfl
theorem aP0:Cx.B 202=some JV:=by rfl
theorem aWf:Cx.B 203=some U5:=by rfl
theorem NP:Cx.B 204=some yU:=by rfl
theorem aQT:Cx.B 206=some JY:=by rfl
theorem uT:Cx.B 218=some SX:=by rfl
theorem a3u:Cx.B 219=some MP:=by rfl
theorem aO4:Cx.B 220=some IG:=by rfl
theorem aEE:Cx.B 221=some WO:=by rfl
theorem aXI:Cx.B 222=some JG:=by rfl
theorem a0P:Cx.B 223=some HI:=by rfl
theorem PI:Cx.B 224=some WG:=by rfl
theorem aZP:Cx.B 226=some GX:=by rfl
theorem a0j:Cx.B 228=some JL:=by rfl
theorem aRD:Cx.B 229=some WF:=by rfl
theorem vO:Cx.B 230=some T4:=by rfl
theorem zT:Cx.B 231=some VX:=by rfl
theorem aYN:Cx.B 232=some HU:=by rfl
theorem aZ3:Cx.B 233=some MJ:=by rfl
theorem aRK:Cx.B 234=some GU:=by rfl
theorem aXn:Cx.B 235=some I3:=by rfl
theorem a0x:Cx.B 236=some HK:=by rfl
theorem a17:Cx.B 237=some F2:=by rfl
theorem aQr:Cx.B 238=some JZ:=by rfl
theorem aS3:Cx.B 239=some LJ:=by rfl
theorem a0v:Cx.B 240=some IF:=by rfl
theorem aZu:Cx.B 241=some LE:=by rfl
theorem a1Q:Cx.B 242=some HP:=by rfl
theorem aY7:Cx.B 243=some KX:=by rfl
theorem a1n:Cx.B 244=some G8:=by rfl
theorem aYF:Cx.B 245=some LP:=by rfl
theorem aQ7:Cx.B 246=some KT:=by rfl
theorem aYb:Cx.B 247=some F6:=by rfl
theorem aPS:Cx.B 248=some I9:=by rfl
theorem aXJ:Cx.B 249=some U1:=by rfl
theorem aRa:Cx.B 251=some HZ:=by rfl
theorem aPr:Cx.B 252=some GP:=by rfl
theorem aZi:Cx.B 253=some F7:=by rfl
theorem aSs:Cx.B 254=some G4:=by rfl
theorem aO8:Cx.B 255=some GQ:=by rfl
theorem aPo:Cx.B 256=some SM:=by rfl
theorem aZR:Cx.B 257=some LA:=by rfl
theorem aPK:Cx.B 258=some H7:=by rfl
theorem aDw:Cx.B 259=some G2:=by rfl
theorem aTR:Cx.B 260=some JN:=by rfl
theorem aTQ:Cx.B 261=some IC:=by rfl
theorem aQj:Cx.B 262=some FX:=by rfl
theorem aTp:Cx.B 263=some HF:=by rfl
theorem a1x:Cx.B 264=some MO:=by rfl
theorem a1W:Cx.B 284=some FW:=by rfl
theorem QL:Cx.B 285=some UQ:=by rfl
theorem aYW:Cx.B 287=some IT:=by rfl
theorem AS:Cx.B 288=some JU:=by rfl
theorem aTi:Cx.B 289=some KQ:=by rfl
theorem aQm:Cx.B 290=some LT:=by rfl
theorem a1p:Cx.B 291=some HE:=by rfl
theorem aVM:Cx.B 292=some KI:=by rfl
theorem aUN:Cx.B 293=some IE:=by rfl
theorem aWZ:Cx.B 294=some IP:=by rfl
theorem aRc:Cx.B 295=some MI:=by rfl
theorem aY5:Cx.B 296=some KP:=by rfl
theorem aWP:Cx.B 297=some F8:=by rfl
theorem aU8:Cx.B 298=some LB:=by rfl
theorem aWm:Cx.B 299=some KU:=by rfl
theorem a3x:Cx.B 300=some MR:=by rfl
theorem aUM:Cx.B 301=some KA:=by rfl
theorem ON:Cx.B 302=some RZ:=by rfl
theorem aZe:Cx.B 303=some IX:=by rfl
theorem aYv:Cx.B 304=some GC:=by rfl
theorem aEQ:Cx.B 305=some CK:=by rfl
theorem aZ8:Cx.B 306=some IS:=by rfl
theorem aZs:Cx.B 307=some JB:=by rfl
theorem aU4:Cx.B 308=some KV:=by rfl
theorem aPf:Cx.B 309=some L4:=by rfl
theorem aWi:Cx.B 310=some BM:=by rfl
theorem aRO:Cx.B 312=some HR:=by rfl
theorem a0V:Cx.B 315=some MK:=by rfl
theorem aPy:Cx.B 316=some HQ:=by rfl
theorem aSo:Cx.B 330=some JP:=by rfl
theorem aCq:Cx.B 331=some BO:=by rfl
theorem zR:Cx.B 332=some TK:=by rfl
theorem aZC:Cx.B 333=some KD:=by rfl
theorem a0y:Cx.B 334=some KM:=by rfl
theorem aUK:Cx.B 335=some MD:=by rfl
theorem aQ1:Cx.B 336=some JS:=by rfl
theorem a1z:Cx.B 337=some HT:=by rfl
theorem aXe:Cx.B 339=some GZ:=by rfl
theorem aYl:Cx.B 340=some TQ:=by rfl
theorem a3m:Cx.B 341=some GH:=by rfl
theorem aCv:Cx.B 342=some MN:=by rfl
theorem aR5:Cx.B 343=some BR:=by rfl
theorem aWu:Cx.B 349=some TO:=by rfl
theorem aS5:Cx.B 350=some HW:=by rfl
theorem aQ3:Cx.B 351=some JF:=by rfl
theorem aSt:Cx.B 352=some JT:=by rfl
theorem aUS:Cx.B 353=some LG:=by rfl
theorem aR9:Cx.B 354=some GT:=by rfl
theorem aZn:Cx.B 355=some IB:=by rfl
theorem aZU:Cx.B 356=some UA:=by rfl
theorem aUs:Cx.B 357=some J9:=by rfl
theorem bCj:aJ Cx 8=false:=by rfl
theorem bCp:aJ Cx 9=false:=by rfl
theorem a6E:aJ Cx 10=false:=by rfl
theorem a5L:aJ Cx 11=false:=by rfl
theorem a8O:aJ Cx 17=false:=by rfl
theorem bBl:aJ Cx 19=false:=by rfl
theorem bAh:aJ Cx 27=false:=by rfl
theorem a8X:aJ Cx 28=false:=by rfl
theorem a4W:aJ Cx 29=true:=by rfl
theorem a6g:aJ Cx 30=true:=by rfl
theorem C5:aJ Cx 31=true:=by rfl
theorem a93:aJ Cx 32=false:=by rfl
theorem a5J:aJ Cx 33=false:=by rfl
theorem aOF:aJ Cx 34=false:=by rfl
theorem a80:aJ Cx 35=false:=by rfl
theorem a6d:aJ Cx 36=true:=by rfl
theorem aN7:aJ Cx 40=true:=by rfl
theorem a4X:aJ Cx 41=true:=by rfl
theorem bAS:aJ Cx 44=false:=by rfl
theorem bAI:aJ Cx 45=false:=by rfl
theorem a7v:aJ Cx 46=false:=by rfl
theorem bAR:aJ Cx 47=false:=by rfl
theorem a7n:aJ Cx 48=false:=by rfl
theorem bAx:aJ Cx 49=false:=by rfl
theorem bAp:aJ Cx 57=false:=by rfl
theorem a9f:aJ Cx 58=true:=by rfl
theorem aOm:aJ Cx 59=true:=by rfl
theorem a9w:aJ Cx 60=true:=by rfl
theorem bAU:aJ Cx 61=true:=by rfl
theorem MM:aJ Cx 62=true:=by rfl
theorem a9H:aJ Cx 63=true:=by rfl
theorem a5Y:aJ Cx 64=false:=by rfl
theorem a7y:aJ Cx 65=false:=by rfl
theorem a3S:aJ Cx 66=true:=by rfl
theorem bAY:aJ Cx 67=true:=by rfl
theorem bBs:aJ Cx 68=false:=by rfl
theorem a6O:aJ Cx 69=true:=by rfl
theorem a8R:aJ Cx 70=false:=by rfl
theorem T9:aJ Cx 71=true:=by rfl
theorem a8H:aJ Cx 72=true:=by rfl
theorem a8C:aJ Cx 74=true:=by rfl
theorem a58:aJ Cx 75=false:=by rfl
theorem a9k:aJ Cx 80=false:=by rfl
theorem pE:aJ Cx 81=false:=by rfl
theorem aOa:aJ Cx 82=false:=by rfl
theorem a8x:aJ Cx 83=true:=by rfl
theorem aOv:aJ Cx 84=false:=by rfl
theorem bAW:aJ Cx 86=false:=by rfl
theorem a9G:aJ Cx 87=false:=by rfl
theorem bA9:aJ Cx 88=false:=by rfl
theorem aP7:aJ Cx 105=false:=by rfl
theorem a3k:aJ Cx 106=true:=by rfl
theorem aYU:aJ Cx 107=true:=by rfl
theorem aWd:aJ Cx 108=false:=by rfl
theorem a18:aJ Cx 109=true:=by rfl
theorem aTn:aJ Cx 110=false:=by rfl
theorem aQ9:aJ Cx 111=false:=by rfl
theorem a0s:aJ Cx 112=false:=by rfl
theorem aAw:aJ Cx 113=true:=by rfl
theorem aZS:aJ Cx 114=false:=by rfl
theorem a1k:aJ Cx 115=false:=by rfl
theorem a3z:aJ Cx 116=true:=by rfl
theorem aW5:aJ Cx 117=true:=by rfl
theorem a28:aJ Cx 118=false:=by rfl
theorem aSM:aJ Cx 119=false:=by rfl
theorem a1D:aJ Cx 120=false:=by rfl
theorem aWC:aJ Cx 121=true:=by rfl
theorem aTT:aJ Cx 122=false:=by rfl
theorem a0q:aJ Cx 123=false:=by rfl
theorem aT8:aJ Cx 124=true:=by rfl
theorem aZv:aJ Cx 126=false:=by rfl
theorem aT0:aJ Cx 127=true:=by rfl
theorem aVa:aJ Cx 128=false:=by rfl
theorem aAY:aJ Cx 129=true:=by rfl
theorem aZY:aJ Cx 130=true:=by rfl
theorem aQn:aJ Cx 131=false:=by rfl
theorem a26:aJ Cx 132=true:=by rfl
theorem aUX:aJ Cx 133=true:=by rfl
theorem aW7:aJ Cx 134=true:=by rfl
theorem aY6:aJ Cx 135=false:=by rfl
theorem aVJ:aJ Cx 136=true:=by rfl
theorem aVd:aJ Cx 137=true:=by rfl
theorem a1A:aJ Cx 138=false:=by rfl
theorem aZq:aJ Cx 139=true:=by rfl
theorem aSQ:aJ Cx 140=true:=by rfl
theorem a2I:aJ Cx 141=false:=by rfl
theorem aYQ:aJ Cx 142=true:=by rfl
theorem a0W:aJ Cx 143=false:=by rfl
theorem a1R:aJ Cx 144=false:=by rfl
theorem aZ2:aJ Cx 147=false:=by rfl
theorem aSe:aJ Cx 148=true:=by rfl
theorem aZJ:aJ Cx 149=false:=by rfl
theorem a1d:aJ Cx 150=false:=by rfl
theorem aXl:aJ Cx 151=false:=by rfl
theorem a2f:aJ Cx 165=true:=by rfl
theorem aS9:aJ Cx 166=false:=by rfl
theorem fB:aJ Cx 167=true:=by rfl
theorem aAl:aJ Cx 168=true:=by rfl
theorem aAJ:aJ Cx 169=true:=by rfl
theorem aWh:aJ Cx 170=true:=by rfl
theorem a0n:aJ Cx 171=true:=by rfl
theorem M3:aJ Cx 172=true:=by rfl
theorem jW:aJ Cx 173=true:=by rfl
theorem aVl:aJ Cx 174=false:=by rfl
theorem aVC:aJ Cx 175=true:=by rfl
theorem aUa:aJ Cx 177=false:=by rfl
theorem aXh:aJ Cx 178=false:=by rfl
theorem aQe:aJ Cx 179=false:=by rfl
theorem aRY:aJ Cx 180=true:=by rfl
theorem aW1:aJ Cx 181=false:=by rfl
theorem aUY:aJ Cx 183=true:=by rfl
theorem aZF:aJ Cx 184=true:=by rfl
theorem uV:aJ Cx 185=true:=by rfl
theorem a0Y:aJ Cx 186=true:=by rfl
theorem aWV:aJ Cx 187=false:=by rfl
theorem a0D:aJ Cx 188=false:=by rfl
theorem AI:aJ Cx 189=true:=by rfl
theorem zH:aJ Cx 190=true:=by rfl
theorem aST:aJ Cx 191=false:=by rfl
theorem aOU:aJ Cx 192=false:=by rfl
theorem aZX:aJ Cx 193=false:=by rfl
theorem aRE:aJ Cx 194=false:=by rfl
theorem aSc:aJ Cx 195=false:=by rfl
theorem a1b:aJ Cx 196=false:=by rfl
theorem aTH:aJ Cx 197=true:=by rfl
theorem a2N:aJ Cx 198=true:=by rfl
theorem aWH:aJ Cx 199=false:=by rfl
theorem aQR:aJ Cx 200=false:=by rfl
theorem a15:aJ Cx 201=false:=by rfl
theorem aV8:aJ Cx 202=false:=by rfl
theorem a1X:aJ Cx 203=true:=by rfl
theorem OA:aJ Cx 204=true:=by rfl
theorem a0c:aJ Cx 205=false:=by rfl
theorem aU3:aJ Cx 206=false:=by rfl
theorem vV:aJ Cx 218=true:=by rfl
theorem aSZ:aJ Cx 220=false:=by rfl
theorem aB7:aJ Cx 221=true:=by rfl
theorem aWN:aJ Cx 222=false:=by rfl
theorem aQW:aJ Cx 223=false:=by rfl
theorem NN:aJ Cx 224=true:=by rfl
theorem aPa:aJ Cx 227=false:=by rfl
theorem a2r:aJ Cx 228=true:=by rfl
theorem aP2:aJ Cx 229=true:=by rfl
theorem vK:aJ Cx 230=true:=by rfl
theorem zO:aJ Cx 231=true:=by rfl
theorem aPU:aJ Cx 233=false:=by rfl
theorem aSa:aJ Cx 234=true:=by rfl
theorem a0O:aJ Cx 235=true:=by rfl
theorem aO2:aJ Cx 236=true:=by rfl
theorem aV9:aJ Cx 237=true:=by rfl
theorem aQZ:aJ Cx 238=true:=by rfl
theorem aU9:aJ Cx 239=true:=by rfl
theorem aZl:aJ Cx 240=true:=by rfl
theorem aVT:aJ Cx 241=true:=by rfl
theorem a0u:aJ Cx 242=true:=by rfl
theorem aR4:aJ Cx 243=true:=by rfl
theorem aSm:aJ Cx 244=true:=by rfl
theorem aW6:aJ Cx 245=true:=by rfl
theorem aYI:aJ Cx 246=true:=by rfl
theorem aTU:aJ Cx 247=true:=by rfl
theorem aUI:aJ Cx 248=true:=by rfl
theorem aPc:aJ Cx 249=true:=by rfl
theorem fM:aJ Cx 250=false:=by rfl
theorem aX7:aJ Cx 251=false:=by rfl
theorem P0:aJ Cx 252=false:=by rfl
theorem aSG:aJ Cx 253=false:=by rfl
theorem aZa:aJ Cx 254=true:=by rfl
theorem aY3:aJ Cx 255=true:=by rfl
theorem aYx:aJ Cx 256=true:=by rfl
theorem aVL:aJ Cx 257=true:=by rfl
theorem aWq:aJ Cx 258=true:=by rfl
theorem aZZ:aJ Cx 259=true:=by rfl
theorem aPD:aJ Cx 260=true:=by rfl
theorem aS0:aJ Cx 261=false:=by rfl
theorem aXw:aJ Cx 262=true:=by rfl
theorem a0B:aJ Cx 263=true:=by rfl
theorem aYd:aJ Cx 264=true:=by rfl
theorem aXp:aJ Cx 284=false:=by rfl
theorem NE:aJ Cx 285=true:=by rfl
theorem rT:aJ Cx 287=false:=by rfl
theorem yW:aJ Cx 288=true:=by rfl
theorem a2a:aJ Cx 289=true:=by rfl
theorem aSO:aJ Cx 290=true:=by rfl
theorem aTf:aJ Cx 291=true:=by rfl
theorem a2e:aJ Cx 292=true:=by rfl
theorem aRt:aJ Cx 293=true:=by rfl
theorem aQ2:aJ Cx 294=true:=by rfl
theorem aZI:aJ Cx 295=true:=by rfl
theorem aWn:aJ Cx 296=true:=by rfl
theorem aW3:aJ Cx 297=true:=by rfl
theorem a22:aJ Cx 298=true:=by rfl
theorem a0I:aJ Cx 299=false:=by rfl
theorem N5:aJ Cx 302=true:=by rfl
theorem a3d:aJ Cx 303=true:=by rfl
theorem aUV:aJ Cx 304=true:=by rfl
theorem aAA:aJ Cx 305=true:=by rfl
theorem aRp:aJ Cx 306=false:=by rfl
theorem aV0:aJ Cx 308=true:=by rfl
theorem aYt:aJ Cx 309=true:=by rfl
theorem aUo:aJ Cx 330=false:=by rfl
theorem aD2:aJ Cx 331=true:=by rfl
theorem zK:aJ Cx 332=true:=by rfl
theorem aW0:aJ Cx 333=false:=by rfl
theorem aQU:aJ Cx 334=false:=by rfl
theorem a2s:aJ Cx 335=false:=by rfl
theorem aQs:aJ Cx 336=false:=by rfl
theorem a1U:aJ Cx 337=false:=by rfl
theorem aVR:aJ Cx 339=true:=by rfl
theorem aY4:aJ Cx 340=true:=by rfl
theorem aS8:aJ Cx 341=true:=by rfl
theorem aZ5:aJ Cx 342=true:=by rfl
theorem aRu:aJ Cx 343=false:=by rfl
theorem aYV:aJ Cx 346=false:=by rfl
theorem aWA:aJ Cx 348=false:=by rfl
theorem aUh:aJ Cx 349=true:=by rfl
theorem aSJ:aJ Cx 350=false:=by rfl
theorem aS1:aJ Cx 351=false:=by rfl
theorem a3n:aJ Cx 352=false:=by rfl
theorem aUp:aJ Cx 353=true:=by rfl
theorem a2k:aJ Cx 354=true:=by rfl
theorem a3a:aJ Cx 355=true:=by rfl
theorem a2t:aJ Cx 356=true:=by rfl
theorem aXb:aJ Cx 357=false:=by rfl
theorem bC6:Cx.T.gl.tab 8=some ([.int .u8 0,.int .u8 1,.int .u8 28,.int .u8 2,.int .u8 29,.int .u8 14,.int .u8 24,.int .u8 3,.int .u8 30,.int .u8 22,.int .u8 20,.int .u8 15,.int .u8 25,.int .u8 17,.int .u8 4,.int .u8 8,.int .u8 31,.int .u8 27,.int .u8 13,.int .u8 23,.int .u8 21,.int .u8 19,.int .u8 16,.int .u8 7,.int .u8 26,.int .u8 12,.int .u8 18,.int .u8 6,.int .u8 11,.int .u8 5,.int .u8 10,.int .u8 9]:List Value):=by rfl
theorem bCV:Cx.T.gl.tab 9=some ([.int .u8 0,.int .u8 1,.int .u8 56,.int .u8 2,.int .u8 57,.int .u8 49,.int .u8 28,.int .u8 3,.int .u8 61,.int .u8 58,.int .u8 42,.int .u8 50,.int .u8 38,.int .u8 29,.int .u8 17,.int .u8 4,.int .u8 62,.int .u8 47,.int .u8 59,.int .u8 36,.int .u8 45,.int .u8 43,.int .u8 51,.int .u8 22,.int .u8 53,.int .u8 39,.int .u8 33,.int .u8 30,.int .u8 24,.int .u8 18,.int .u8 12,.int .u8 5,.int .u8 63,.int .u8 55,.int .u8 48,.int .u8 27,.int .u8 60,.int .u8 41,.int .u8 37,.int .u8 16,.int .u8 46,.int .u8 35,.int .u8 44,.int .u8 21,.int .u8 52,.int .u8 32,.int .u8 23,.int .u8 11,.int .u8 54,.int .u8 26,.int .u8 40,.int .u8 15,.int .u8 34,.int .u8 20,.int .u8 31,.int .u8 10,.int .u8 25,.int .u8 14,.int .u8 19,.int .u8 9,.int .u8 13,.int .u8 8,.int .u8 7,.int .u8 6]:List Value):=by rfl
theorem bCd:Cx.T.gl.tab 5=some ([.int .u64 1,.int .u64 10,.int .u64 100,.int .u64 1000,.int .u64 10000,.int .u64 100000,.int .u64 1000000,.int .u64 10000000,.int .u64 100000000,.int .u64 1000000000,.int .u64 10000000000,.int .u64 100000000000,.int .u64 1000000000000,.int .u64 10000000000000,.int .u64 100000000000000,.int .u64 1000000000000000,.int .u64 10000000000000000,.int .u64 100000000000000000,.int .u64 1000000000000000000,.int .u64 10000000000000000000]:List Value):=by rfl
theorem bCB:Cx.T.gl.tab 0=some ([.int .i64 4,.int .i64 2,.int .i64 4,.int .i64 4,.int .i64 4]:List Value):=by rfl
theorem bDe:Cx.T.gl.tab 4=some ([.int .u8 0,.int .u8 35,.int .u8 38,.int .u8 29,.int .u8 7,.int .u8 7,.int .u8 15,.int .u8 32,.int .u8 92]:List Value):=by rfl
theorem bCN:Cx.T.gl.tab 2=some ([.int .u8 0,.int .u8 1,.int .u8 1,.int .u8 1,.int .u8 3,.int .u8 3,.int .u8 2,.int .u8 2,.int .u8 2,.int .u8 2,.int .u8 3,.int .u8 3,.int .u8 3]:List Value):=by rfl
theorem bCG:Cx.T.gl.tab 1=some ([.string ⟨#[]⟩,.string ⟨#[71,101,116,83]⟩,.string ⟨#[71,101,116,77]⟩,.string ⟨#[80,117,116]⟩,.string ⟨#[68,111,110,101]⟩,.string ⟨#[67,111,112,121]⟩,.string ⟨#[70,119,100,83]⟩,.string ⟨#[70,119,100,77]⟩,.string ⟨#[73,110,118]⟩,.string ⟨#[80,117,116,65,99,107]⟩,.string ⟨#[86,97,108,117,101]⟩,.string ⟨#[71,114,97,110,116]⟩,.string ⟨#[73,110,118,65,99,107]⟩]:List Value):=by rfl
section
variable{zs:List A}{dst:Option Nat}{ms:List MOp}{st:Ev.St}{k:List It}{Q:Ex→Ev.St→Prop}
theorem ps8:bB Cx 8 zs dst ms st k Q↔bE Cx 8 (aV st.H zs) (zs.all shut) dst 0 ms st k Q:=aD bCj
theorem ps9:bB Cx 9 zs dst ms st k Q↔bE Cx 9 (aV st.H zs) (zs.all shut) dst 0 ms st k Q:=aD bCp
theorem bCE:bB Cx 10 zs dst ms st k Q↔bE Cx 10 (aV st.H zs) (zs.all shut) dst 0 ms st k Q:=aD a6E
theorem bB6:bB Cx 11 zs dst ms st k Q↔bE Cx 11 (aV st.H zs) (zs.all shut) dst 0 ms st k Q:=aD a5L
theorem bCY:bB Cx 17 zs dst ms st k Q↔bE Cx 17 (aV st.H zs) (zs.all shut) dst 0 ms st k Q:=aD a8O
theorem bDk:bB Cx 19 zs dst ms st k Q↔bE Cx 19 (aV st.H zs) (zs.all shut) dst 0 ms st k Q:=aD bBl
theorem bDo:bB Cx 27 zs dst ms st k Q↔bE Cx 27 (aV st.H zs) (zs.all shut) dst 0 ms st k Q:=aD bAh
theorem bCL:bB Cx 28 zs dst ms st k Q↔bE Cx 28 (aV st.H zs) (zs.all shut) dst 0 ms st k Q:=aD a8X
theorem bCt:bB Cx 32 zs dst ms st k Q↔bE Cx 32 (aV st.H zs) (zs.all shut) dst 0 ms st k Q:=aD a93
theorem bCR:bB Cx 33 zs dst ms st k Q↔bE Cx 33 (aV st.H zs) (zs.all shut) dst 0 ms st k Q:=aD a5J
theorem bDj:bB Cx 34 zs dst ms st k Q↔bE Cx 34 (aV st.H zs) (zs.all shut) dst 0 ms st k Q:=aD aOF
theorem bCJ:bB Cx 35 zs dst ms st k Q↔bE Cx 35 (aV st.H zs) (zs.all shut) dst 0 ms st k Q:=aD a80
theorem bCA:bB Cx 44 zs dst ms st k Q↔bE Cx 44 (aV st.H zs) (zs.all shut) dst 0 ms st k Q:=aD bAS
theorem bB4:bB Cx 45 zs dst ms st k Q↔bE Cx 45 (aV st.H zs) (zs.all shut) dst 0 ms st k Q:=aD bAI
theorem bC8:bB Cx 46 zs dst ms st k Q↔bE Cx 46 (aV st.H zs) (zs.all shut) dst 0 ms st k Q:=aD a7v
theorem bCq:bB Cx 47 zs dst ms st k Q↔bE Cx 47 (aV st.H zs) (zs.all shut) dst 0 ms st k Q:=aD bAR
theorem bCT:bB Cx 48 zs dst ms st k Q↔bE Cx 48 (aV st.H zs) (zs.all shut) dst 0 ms st k Q:=aD a7n
theorem bCc:bB Cx 49 zs dst ms st k Q↔bE Cx 49 (aV st.H zs) (zs.all shut) dst 0 ms st k Q:=aD bAx
theorem bCn:bB Cx 57 zs dst ms st k Q↔bE Cx 57 (aV st.H zs) (zs.all shut) dst 0 ms st k Q:=aD bAp
theorem bCF:bB Cx 64 zs dst ms st k Q↔bE Cx 64 (aV st.H zs) (zs.all shut) dst 0 ms st k Q:=aD a5Y
theorem bC1:bB Cx 65 zs dst ms st k Q↔bE Cx 65 (aV st.H zs) (zs.all shut) dst 0 ms st k Q:=aD a7y
theorem bCx:bB Cx 68 zs dst ms st k Q↔bE Cx 68 (aV st.H zs) (zs.all shut) dst 0 ms st k Q:=aD bBs
theorem bCD:bB Cx 70 zs dst ms st k Q↔bE Cx 70 (aV st.H zs) (zs.all shut) dst 0 ms st k Q:=aD a8R
theorem bDi:bB Cx 75 zs dst ms st k Q↔bE Cx 75 (aV st.H zs) (zs.all shut) dst 0 ms st k Q:=aD a58
theorem bCP:bB Cx 80 zs dst ms st k Q↔bE Cx 80 (aV st.H zs) (zs.all shut) dst 0 ms st k Q:=aD a9k
theorem bC0:bB Cx 81 zs dst ms st k Q↔bE Cx 81 (aV st.H zs) (zs.all shut) dst 0 ms st k Q:=aD pE
theorem bB2:bB Cx 86 zs dst ms st k Q↔bE Cx 86 (aV st.H zs) (zs.all shut) dst 0 ms st k Q:=aD bAW
theorem bCl:bB Cx 87 zs dst ms st k Q↔bE Cx 87 (aV st.H zs) (zs.all shut) dst 0 ms st k Q:=aD a9G
theorem bCa:bB Cx 88 zs dst ms st k Q↔bE Cx 88 (aV st.H zs) (zs.all shut) dst 0 ms st k Q:=aD bA9
theorem bBi:bB Cx 105 zs dst ms st k Q↔bE Cx 105 (aV st.H zs) (zs.all shut) dst 0 ms st k Q:=aD aP7
theorem a4n:bB Cx 108 zs dst ms st k Q↔bE Cx 108 (aV st.H zs) (zs.all shut) dst 0 ms st k Q:=aD aWd
theorem a9O:bB Cx 110 zs dst ms st k Q↔bE Cx 110 (aV st.H zs) (zs.all shut) dst 0 ms st k Q:=aD aTn
theorem a5f:bB Cx 111 zs dst ms st k Q↔bE Cx 111 (aV st.H zs) (zs.all shut) dst 0 ms st k Q:=aD aQ9
theorem a9Z:bB Cx 112 zs dst ms st k Q↔bE Cx 112 (aV st.H zs) (zs.all shut) dst 0 ms st k Q:=aD a0s
theorem a43:bB Cx 114 zs dst ms st k Q↔bE Cx 114 (aV st.H zs) (zs.all shut) dst 0 ms st k Q:=aD aZS
theorem a42:bB Cx 115 zs dst ms st k Q↔bE Cx 115 (aV st.H zs) (zs.all shut) dst 0 ms st k Q:=aD a1k
theorem bA8:bB Cx 118 zs dst ms st k Q↔bE Cx 118 (aV st.H zs) (zs.all shut) dst 0 ms st k Q:=aD a28
theorem bA3:bB Cx 119 zs dst ms st k Q↔bE Cx 119 (aV st.H zs) (zs.all shut) dst 0 ms st k Q:=aD aSM
theorem a50:bB Cx 120 zs dst ms st k Q↔bE Cx 120 (aV st.H zs) (zs.all shut) dst 0 ms st k Q:=aD a1D
theorem a9x:bB Cx 122 zs dst ms st k Q↔bE Cx 122 (aV st.H zs) (zs.all shut) dst 0 ms st k Q:=aD aTT
theorem a3Y:bB Cx 123 zs dst ms st k Q↔bE Cx 123 (aV st.H zs) (zs.all shut) dst 0 ms st k Q:=aD a0q
theorem a45:bB Cx 126 zs dst ms st k Q↔bE Cx 126 (aV st.H zs) (zs.all shut) dst 0 ms st k Q:=aD aZv
theorem a7S:bB Cx 128 zs dst ms st k Q↔bE Cx 128 (aV st.H zs) (zs.all shut) dst 0 ms st k Q:=aD aVa
theorem a6a:bB Cx 131 zs dst ms st k Q↔bE Cx 131 (aV st.H zs) (zs.all shut) dst 0 ms st k Q:=aD aQn
theorem a8v:bB Cx 135 zs dst ms st k Q↔bE Cx 135 (aV st.H zs) (zs.all shut) dst 0 ms st k Q:=aD aY6
theorem a5B:bB Cx 138 zs dst ms st k Q↔bE Cx 138 (aV st.H zs) (zs.all shut) dst 0 ms st k Q:=aD a1A
theorem a33:bB Cx 141 zs dst ms st k Q↔bE Cx 141 (aV st.H zs) (zs.all shut) dst 0 ms st k Q:=aD a2I
theorem a5V:bB Cx 143 zs dst ms st k Q↔bE Cx 143 (aV st.H zs) (zs.all shut) dst 0 ms st k Q:=aD a0W
theorem a98:bB Cx 144 zs dst ms st k Q↔bE Cx 144 (aV st.H zs) (zs.all shut) dst 0 ms st k Q:=aD a1R
theorem a9E:bB Cx 147 zs dst ms st k Q↔bE Cx 147 (aV st.H zs) (zs.all shut) dst 0 ms st k Q:=aD aZ2
theorem bBa:bB Cx 149 zs dst ms st k Q↔bE Cx 149 (aV st.H zs) (zs.all shut) dst 0 ms st k Q:=aD aZJ
theorem a5W:bB Cx 150 zs dst ms st k Q↔bE Cx 150 (aV st.H zs) (zs.all shut) dst 0 ms st k Q:=aD a1d
theorem a97:bB Cx 151 zs dst ms st k Q↔bE Cx 151 (aV st.H zs) (zs.all shut) dst 0 ms st k Q:=aD aXl
theorem a7s:bB Cx 166 zs dst ms st k Q↔bE Cx 166 (aV st.H zs) (zs.all shut) dst 0 ms st k Q:=aD aS9
theorem a8c:bB Cx 174 zs dst ms st k Q↔bE Cx 174 (aV st.H zs) (zs.all shut) dst 0 ms st k Q:=aD aVl
theorem bBj:bB Cx 177 zs dst ms st k Q↔bE Cx 177 (aV st.H zs) (zs.all shut) dst 0 ms st k Q:=aD aUa
theorem bAf:bB Cx 178 zs dst ms st k Q↔bE Cx 178 (aV st.H zs) (zs.all shut) dst 0 ms st k Q:=aD aXh
theorem a66:bB Cx 179 zs dst ms st k Q↔bE Cx 179 (aV st.H zs) (zs.all shut) dst 0 ms st k Q:=aD aQe
theorem a7Z:bB Cx 181 zs dst ms st k Q↔bE Cx 181 (aV st.H zs) (zs.all shut) dst 0 ms st k Q:=aD aW1
theorem bAt:bB Cx 187 zs dst ms st k Q↔bE Cx 187 (aV st.H zs) (zs.all shut) dst 0 ms st k Q:=aD aWV
theorem bBF:bB Cx 188 zs dst ms st k Q↔bE Cx 188 (aV st.H zs) (zs.all shut) dst 0 ms st k Q:=aD a0D
theorem a82:bB Cx 191 zs dst ms st k Q↔bE Cx 191 (aV st.H zs) (zs.all shut) dst 0 ms st k Q:=aD aST
theorem a7J:bB Cx 192 zs dst ms st k Q↔bE Cx 192 (aV st.H zs) (zs.all shut) dst 0 ms st k Q:=aD aOU
theorem bAH:bB Cx 193 zs dst ms st k Q↔bE Cx 193 (aV st.H zs) (zs.all shut) dst 0 ms st k Q:=aD aZX
theorem a3H:bB Cx 194 zs dst ms st k Q↔bE Cx 194 (aV st.H zs) (zs.all shut) dst 0 ms st k Q:=aD aRE
theorem a7r:bB Cx 195 zs dst ms st k Q↔bE Cx 195 (aV st.H zs) (zs.all shut) dst 0 ms st k Q:=aD aSc
theorem bBx:bB Cx 196 zs dst ms st k Q↔bE Cx 196 (aV st.H zs) (zs.all shut) dst 0 ms st k Q:=aD a1b
theorem a3V:bB Cx 199 zs dst ms st k Q↔bE Cx 199 (aV st.H zs) (zs.all shut) dst 0 ms st k Q:=aD aWH
theorem a8U:bB Cx 200 zs dst ms st k Q↔bE Cx 200 (aV st.H zs) (zs.all shut) dst 0 ms st k Q:=aD aQR
theorem bA1:bB Cx 201 zs dst ms st k Q↔bE Cx 201 (aV st.H zs) (zs.all shut) dst 0 ms st k Q:=aD a15
theorem a6A:bB Cx 202 zs dst ms st k Q↔bE Cx 202 (aV st.H zs) (zs.all shut) dst 0 ms st k Q:=aD aV8
theorem a3T:bB Cx 205 zs dst ms st k Q↔bE Cx 205 (aV st.H zs) (zs.all shut) dst 0 ms st k Q:=aD a0c
theorem a6B:bB Cx 206 zs dst ms st k Q↔bE Cx 206 (aV st.H zs) (zs.all shut) dst 0 ms st k Q:=aD aU3
theorem a7d:bB Cx 220 zs dst ms st k Q↔bE Cx 220 (aV st.H zs) (zs.all shut) dst 0 ms st k Q:=aD aSZ
theorem a8M:bB Cx 222 zs dst ms st k Q↔bE Cx 222 (aV st.H zs) (zs.all shut) dst 0 ms st k Q:=aD aWN
theorem a6Z:bB Cx 223 zs dst ms st k Q↔bE Cx 223 (aV st.H zs) (zs.all shut) dst 0 ms st k Q:=aD aQW
theorem a86:bB Cx 227 zs dst ms st k Q↔bE Cx 227 (aV st.H zs) (zs.all shut) dst 0 ms st k Q:=aD aPa
theorem a61:bB Cx 233 zs dst ms st k Q↔bE Cx 233 (aV st.H zs) (zs.all shut) dst 0 ms st k Q:=aD aPU
theorem a3O:bB Cx 250 zs dst ms st k Q↔bE Cx 250 (aV st.H zs) (zs.all shut) dst 0 ms st k Q:=aD fM
theorem bBE:bB Cx 251 zs dst ms st k Q↔bE Cx 251 (aV st.H zs) (zs.all shut) dst 0 ms st k Q:=aD aX7
theorem bAg:bB Cx 252 zs dst ms st k Q↔bE Cx 252 (aV st.H zs) (zs.all shut) dst 0 ms st k Q:=aD P0
theorem a6j:bB Cx 253 zs dst ms st k Q↔bE Cx 253 (aV st.H zs) (zs.all shut) dst 0 ms st k Q:=aD aSG
theorem a8L:bB Cx 261 zs dst ms st k Q↔bE Cx 261 (aV st.H zs) (zs.all shut) dst 0 ms st k Q:=aD aS0
theorem a4t:bB Cx 287 zs dst ms st k Q↔bE Cx 287 (aV st.H zs) (zs.all shut) dst 0 ms st k Q:=aD rT
theorem a5i:bB Cx 299 zs dst ms st k Q↔bE Cx 299 (aV st.H zs) (zs.all shut) dst 0 ms st k Q:=aD a0I
theorem bA2:bB Cx 306 zs dst ms st k Q↔bE Cx 306 (aV st.H zs) (zs.all shut) dst 0 ms st k Q:=aD aRp
theorem a6W:bB Cx 333 zs dst ms st k Q↔bE Cx 333 (aV st.H zs) (zs.all shut) dst 0 ms st k Q:=aD aW0
theorem a90:bB Cx 334 zs dst ms st k Q↔bE Cx 334 (aV st.H zs) (zs.all shut) dst 0 ms st k Q:=aD aQU
theorem a3U:bB Cx 335 zs dst ms st k Q↔bE Cx 335 (aV st.H zs) (zs.all shut) dst 0 ms st k Q:=aD a2s
theorem a4p:bB Cx 336 zs dst ms st k Q↔bE Cx 336 (aV st.H zs) (zs.all shut) dst 0 ms st k Q:=aD aQs
theorem a7D:bB Cx 337 zs dst ms st k Q↔bE Cx 337 (aV st.H zs) (zs.all shut) dst 0 ms st k Q:=aD a1U
theorem a6X:bB Cx 346 zs dst ms st k Q↔bE Cx 346 (aV st.H zs) (zs.all shut) dst 0 ms st k Q:=aD aYV
theorem bBr:bB Cx 348 zs dst ms st k Q↔bE Cx 348 (aV st.H zs) (zs.all shut) dst 0 ms st k Q:=aD aWA
theorem a8V:bB Cx 350 zs dst ms st k Q↔bE Cx 350 (aV st.H zs) (zs.all shut) dst 0 ms st k Q:=aD aSJ
theorem a6U:bB Cx 351 zs dst ms st k Q↔bE Cx 351 (aV st.H zs) (zs.all shut) dst 0 ms st k Q:=aD aS1
theorem bAo:bB Cx 352 zs dst ms st k Q↔bE Cx 352 (aV st.H zs) (zs.all shut) dst 0 ms st k Q:=aD a3n
theorem bAG:bB Cx 357 zs dst ms st k Q↔bE Cx 357 (aV st.H zs) (zs.all shut) dst 0 ms st k Q:=aD aXb
end
attribute [go_sem] fn4 m4 g4 a6v aET fn8 m8 g8 a57 aA1 a7x aEF fn9 m9 g9 ZU m10 g10 a1i O0 aYy NW aAK m11 g11 aXS m14 g14 aDL m15 g15 XR m16 g16 a1l OD YE m17 g17 aPJ N0 a2g PH aDv m18 g18 aA6 m19 g19 aXH PX aES m20 g20 aQG QD a2U m21 g21 a3r m23 g23 aE4 m27 g27 aZz NA aBh m28 g28 Z6 m29 g29 aF0 m30 g30 A7 m31 g31 aCx m32 g32 aCJ m33 g33 X6 m34 g34 aCO m35 g35 aSD QC a1E NX aFb m36 g36 aQF NT aSL m37 g37 aQu m38 g38 aU6 m39 g39 aEU m40 g40 aCw m41 g41 aBE m42 g42 aEI m43 g43 aC7 m44 g44 ZT m45 g45 aDZ m46 g46 aCK m47 g47 aCk m48 g48 aCd m49 g49 aZV O4 aXE m50 g50 aTq m51 g51 a2d m52 g52 aUU m53 g53 aSd m56 g56 aBQ m57 g57 aUD P4 aDn m58 g58 YS m59 g59 aEh m60 g60 aAM m61 g61 FH m62 g62 aEG m63 g63 aS6 PD aQV M4 aQX NQ a1w N9 aBw m64 g64 aYL PJ a23 OS YM m65 g65 aBL m66 g66 aLL m67 g67 aEc m68 g68 aXK QV aGZ m69 g69 aDE m70 g70 aML m71 g71 aAX m72 g72 BE m73 g73 ZZ m74 g74 A9 m75 g75 aYG m76 g76 aPC m78 g78 a0r m79 g79 aC5 m80 g80 aAo m81 g81 aCN m82 g82 aKA m83 g83 aEb m84 g84 aBo m85 g85 aEV m86 g86 aV6 PN aEl m87 g87 aPX QT ZW m88 g88 aXc M7 a2M m89 g89 a2q m91 g91 aQE m92 g92 aWj m93 g93 aWJ m94 g94 aUn m95 g95 aA3 a8I aUC aCe a4o aWw aDO aBc aY8 aC3 aPe aPO CE bAT aRs KF bAz aUG KO a5m aTv CD a4d a19 KB a5j aTk FY a6Y a3v G9 a4Q aQ6 xA a6y a0k CV a4a a0A JD a84 aSY IW a5Q aO0 HA aYz aQC aMe FA LD a4H aXM GG a3J aT9 KH a65 aVr L3 a7M aQc MU a6L aZr J1 a48 a16 HN a4V aWG L7 a8F aXz FZ a8w a3e KC bA4 aX0 WI a9t aTL B5 a0z aWz aHt E9 BH aRz aP8 aHa FP KR a7k aYM HV a41 aVY JJ a4F aY9 GI aSn aXT aJy EL MY a9I aXX G0 a4Y a2v J0 bBw aVs LF a8Q aXg HD aLf aRU aNa DV aMo EN G1 a8n aVX IK a4R aPR LC a54 aRR LL XT aUf aJ5 DK aLi EF aNM C8 aMt DF aCA a34 aXN aBr a60 aRq aAP a7T aRn aDk a69 aR8 G5 bAc aPW TR a3g aX4 J3 a9C aYJ I1 a3M aVG ME a55 aPZ aB1 a6K aSI IA a8G aZN aB8 a67 aTW aBW a9L aRv aDm a0f aVE aBu a6z aTE UG bAK aZt GR aWY aO7 aHo D9 TP a4K a2K RI a3R aRQ WJ a4N aVB SG a83 aVw SV a9o a01 WK a6I a1P S8 a6R aYS L9 bAv aQy IN a5z a1g LN a7h aT5 IR a9s a3t JC a8s a1O H8 a5U aWb zN a9R aUm MW a6c aWM GO a5n a1H KG aHu aU0 aKW EE aH5 DJ JH aPi a1h aNw E2 Q0 a7E aRF LH aWK aYE aLe DI pB a5X aTd MG a9b aPA TW aJW aYC QY bAi aP3 JE a6N aSH I7 a8S aQp L5 a9J aWI F3 bBe aTB KW bBh a0N GS a3L aXV J6 aYP aYp aKI EO II a3b aV7 aI3 EK MF a8Z aYc KY aFE aPh aId DL aNo FS MA aU5 aRg aGr FE JV a5E aS2 U5 a7V aXO yU aSE a2z aFI DB aBV aWs aTG JY aZh aX9 aJg EJ aB5 a2P a0p SX a4k aRw MP a8B a1F IG bAb aTP WO aJj aVk aJv E4 aHl FT JG a9q aTO HI a6h aRB WG a8q a3o GX a7I a00 aBq a8f aUH JL a8b aX8 WF a7u aQ0 T4 a7P aZG VX bAn a0Z HU bAV aVo MJ a6p aTw GU a8t a2n I3 bBu aSV HK a95 aVW F2 a49 aPI JZ a62 aQJ LJ a5v aVS IF a81 aSq LE a8j aT2 HP bAB aYi KX a7Q aPt G8 a7e aW9 LP a9D aWe KT a4L aUr F6 a7U aVK I9 bAC aW4 U1 a4h a2b aCP a4c a0X HZ a7Y a0C GP a4O aX2 F7 a2C a0l aKM DC G4 bBA aZD GQ a56 aUF SM bBc aRG LA a9e aRy H7 a5I aYX G2 bAe a3w JN a6T aWa IC a47 aV4 FX bAd aRC HF bBf aYm MO a5P a12 aEu bAO aYr FW a5S a1s UQ aVf aTh aFy FL aFf a5C a0R IT a5R aVV JU a4D aXr KQ a9T aWT LT a6e a3q HE a7H aO9 KI a9d aUW IE a6k aTz IP a3G aRx MI a4C a1Z KP a4U a2p F8 a6u aYo LB a6V aSS KU a8A a3j MR a8J aWr KA a7m aZ0 RZ a5q a0g IX aR6 aY2 aMs EC GC bBd a27 CK aWk aVp IS a6G aZw JB a7t a21 KV a3l aTl aL9 EB L4 aRo aQB aJY FJ BM a11 aWy aCL a1T aVQ HR aRd aZQ aBp a6r aQD aCr a9u aXL MK a4P aXy HQ aWv aPE JP a0H aXW aMQ D5 BO aVu aRi TK a7z aVv KD a7R aQY KM a4q aXF MD a52 aVx JS a4s aXG HT aFz aV1 aD6 a5p a3h GZ aIY a1q aHd EV aFw DX TQ a6S aUi GH bA0 aYk MN bAr aSw BR aK6 aSz aEa a5K a1t aAm a6D a2F aEO a8z aRb TO a79 a25 HW a8k aPQ JF a5l aXY JT a3P aS7 LG bAL aYf GT aTa aUA aNr EW IB aSp a3B aM6 DP UA aYK aUZ J9 bAj a0i ps8 ps9 bCE bB6 bCY bDk bDo bCL bCt bCR bDj bCJ bCA bB4 bC8 bCq bCT bCc bCn bCF bC1 bCx bCD bDi bCP bC0 bB2 bCl bCa bBi a4n a9O a5f a9Z a43 a42 bA8 bA3 a50 a9x a3Y a45 a7S a6a a8v a5B a33 a5V a98 a9E bBa a5W a97 a7s a8c bBj bAf a66 a7Z bAt bBF a82 a7J bAH a3H a7r bBx a3V a8U bA1 a6A a3T a6B a7d a8M a6Z a86 a61 a3O bBE bAg a6j a8L a4t a5i bA2 a6W a90 a3U a4p a7D a6X bBr a8V a6U bAo bAG bCe bCo bCU bDn bCw a9N a6M a9j a9B a8E a4y bAD a77 bAM a7X a40 a8W a4v a7l a8K a5g a7j a30 a6m bBk a4i a7O a5d a7G a8o a9i bBg a9a a96 a7N a3Z a7g a5T a3N bBp bAl a5H a5D a5c a5t a6o bAw a2Q aR0 a2B a2W a2w aRe aSk a0F aSh aYw a1r a09 aUl aXR aRW a29 aVc a2G aZW a1M aP4 a2J aXi aUO aPP aTt aPs aVi a0b aUu a3C aPm aXC a2X aXj aTK aUx a1N aTm aZH aTx aZb aSv aPz aQo aVF aRV aRJ aZy a02 aWR aR3 aZo a3y aWF a1v aP5 aWD aPM a1C aUj aTs aQS aSR aUy aTN aVh a2Y a2V aVA a1S aVN aXd aUv aVt aXB a2u a14 ty1 ty3 ty4 ty5 ty9 aKj aHk aIW aKv aKG aF1 aLB aKy aKV aNv aKn aFW aKD aFP aFL aFA aFQ aMU aNb aNQ aFZ aJL aJn aGG aFB aLW OJ aHD XW aJ8 aMz aGx aG8 aL5 aKz aJ3 aNR aL7 aKw aK1 OP aGh VG T3 T8 TX VL WT SF UR Q5 T0 VC WL VK VU UW VV RP UX SQ WP V3 VI RJ VJ TD VE U8 CF SN RU R3 U9 VP SE V7 S9 RH R4 VZ WV Q1 US RM RG Q3 WD SA V4 ST V6 TJ TA V5 RW WB Q6 TI UK SW TL RN VY VS RE TM RV VH T6 SD SC RX R5 TU RO SL UH UZ SJ bC6 bCV bCd bCB bDe bCN bCG
abbrev Sv(s:ByteArray):A:=.v (.string s)
abbrev I8(n:Int):A:=.v (.int .u8 n)
abbrev I64(n:Int):A:=.v (.int .i64 n)
abbrev Bo(b:Bool):A:=.v (.bool b)
theorem jJ(s:ByteArray):s.data.toList.length=s.size:=rfl
theorem a10:IntKind.i64.max=9223372036854775807:=rfl
theorem a8m(l:Array UInt8):(ByteArray.mk l).size=l.size:=rfl
theorem a2H(l:List UInt8):(Array.mk l).size=l.length:=rfl
attribute [go_sem] a10 a8m a2H ByteArray.size_append if_false
end Go.Proofs.YtpdphobnchajbaaGreatDoor.Ev
