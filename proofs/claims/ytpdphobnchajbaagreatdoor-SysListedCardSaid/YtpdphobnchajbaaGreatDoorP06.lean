/- The evaluator's context: types and bodies, and that they are the program's. Printed by wip/ev/gen/ctx.py. -/
import Derived.Test.YtpdphobnchajbaaGreatDoorP03
import Derived.Test.YtpdphobnchajbaaGreatDoorChecked
import Derived.Test.YtpdphobnchajbaaGreatDoorP04
import Derived.Test.YtpdphobnchajbaaGreatDoorP05
set_option linter.unusedSimpArgs false
set_option linter.unusedVariables false
namespace Go.Proofs.YtpdphobnchajbaaGreatDoor.Ev
open Go Go.RowKit
set_option maxRecDepth 100000
def ty1:Ty:=⟨.func,1,8,[.nilFunc],true⟩
theorem tyOk1:tyOf Tryz.prog 1=some ty1:=by kernel_rfl
def ty3:Ty:=⟨(.int .i64),1,8,[(.int .i64 0)],true⟩
theorem tyOk3:tyOf Tryz.prog 3=some ty3:=by kernel_rfl
def ty4:Ty:=⟨.bool,1,1,[(.bool false)],true⟩
theorem tyOk4:tyOf Tryz.prog 4=some ty4:=by kernel_rfl
def ty5:Ty:=⟨(.int .u8),1,1,[(.int .u8 0)],true⟩
theorem tyOk5:tyOf Tryz.prog 5=some ty5:=by kernel_rfl
def ty9:Ty:=⟨.str,1,16,[(.string ⟨#[]⟩)],true⟩
theorem tyOk9:tyOf Tryz.prog 9=some ty9:=by kernel_rfl
def ty20:Ty:=⟨.other,1,16,[.nilIface],true⟩
theorem tyOk20:tyOf Tryz.prog 20=some ty20:=by kernel_rfl
def ty22:Ty:=⟨(.slice 9),1,24,[(.slice none 0 0)],true⟩
theorem tyOk22:tyOf Tryz.prog 22=some ty22:=by kernel_rfl
def ty23:Ty:=⟨(.slice 5),1,24,[(.slice none 0 0)],true⟩
theorem tyOk23:tyOf Tryz.prog 23=some ty23:=by kernel_rfl
def ty24:Ty:=⟨(.slice 95),1,24,[(.slice none 0 0)],true⟩
theorem tyOk24:tyOf Tryz.prog 24=some ty24:=by kernel_rfl
def ty25:Ty:=⟨(.slice 27),1,24,[(.slice none 0 0)],true⟩
theorem tyOk25:tyOf Tryz.prog 25=some ty25:=by kernel_rfl
def ty27:Ty:=⟨(.struct [(5,0,true),(5,1,true),(5,2,true),(5,3,true),(25,4,true)]),5,32,[(.int .u8 0),(.int .u8 0),(.int .u8 0),(.int .u8 0),(.slice none 0 0)],true⟩
theorem tyOk27:tyOf Tryz.prog 27=some ty27:=by kernel_rfl
def ty29:Ty:=⟨(.struct [(9,0,true),(22,1,true),(23,2,true),(24,3,true),(5,4,true),(27,5,true)]),10,128,[(.string ⟨#[]⟩),(.slice none 0 0),(.slice none 0 0),(.slice none 0 0),(.int .u8 0),(.int .u8 0),(.int .u8 0),(.int .u8 0),(.int .u8 0),(.slice none 0 0)],true⟩
theorem tyOk29:tyOf Tryz.prog 29=some ty29:=by kernel_rfl
def ty31:Ty:=⟨(.struct [(3,0,true),(3,1,true),(3,2,true),(3,3,true),(3,4,true)]),5,40,[(.int .i64 0),(.int .i64 0),(.int .i64 0),(.int .i64 0),(.int .i64 0)],true⟩
theorem tyOk31:tyOf Tryz.prog 31=some ty31:=by kernel_rfl
def ty33:Ty:=⟨(.struct [(5,0,true),(5,1,true),(5,2,true),(3,3,true),(4,4,true)]),5,24,[(.int .u8 0),(.int .u8 0),(.int .u8 0),(.int .i64 0),(.bool false)],true⟩
theorem tyOk33:tyOf Tryz.prog 33=some ty33:=by kernel_rfl
def ty34:Ty:=⟨(.int .u16),1,2,[(.int .u16 0)],true⟩
theorem tyOk34:tyOf Tryz.prog 34=some ty34:=by kernel_rfl
def ty36:Ty:=⟨(.struct [(5,0,true),(5,1,true),(34,2,true)]),3,4,[(.int .u8 0),(.int .u8 0),(.int .u16 0)],true⟩
theorem tyOk36:tyOf Tryz.prog 36=some ty36:=by kernel_rfl
def ty37:Ty:=⟨(.array 14 36),42,56,(List.replicate 14 ([(.int .u8 0),(.int .u8 0),(.int .u16 0)]:List Value)).flatten,true⟩
theorem tyOk37:tyOf Tryz.prog 37=some ty37:=by kernel_rfl
def ty38:Ty:=⟨(.array 12 37),504,672,(List.replicate 168 ([(.int .u8 0),(.int .u8 0),(.int .u16 0)]:List Value)).flatten,true⟩
theorem tyOk38:tyOf Tryz.prog 38=some ty38:=by kernel_rfl
def ty39:Ty:=⟨(.array 5 36),15,20,[(.int .u8 0),(.int .u8 0),(.int .u16 0),(.int .u8 0),(.int .u8 0),(.int .u16 0),(.int .u8 0),(.int .u8 0),(.int .u16 0),(.int .u8 0),(.int .u8 0),(.int .u16 0),(.int .u8 0),(.int .u8 0),(.int .u16 0)],true⟩
theorem tyOk39:tyOf Tryz.prog 39=some ty39:=by kernel_rfl
def ty40:Ty:=⟨(.array 4 39),60,80,(List.replicate 20 ([(.int .u8 0),(.int .u8 0),(.int .u16 0)]:List Value)).flatten,true⟩
theorem tyOk40:tyOf Tryz.prog 40=some ty40:=by kernel_rfl
def ty42:Ty:=⟨(.struct [(9,0,true),(38,1,true),(40,505,true)]),565,768,[(.string ⟨#[]⟩)]++(List.replicate 188 ([(.int .u8 0),(.int .u8 0),(.int .u16 0)]:List Value)).flatten,true⟩
theorem tyOk42:tyOf Tryz.prog 42=some ty42:=by kernel_rfl
def ty44:Ty:=⟨(.struct [(29,0,true),(31,10,true),(33,15,true),(42,20,true)]),585,960,[(.string ⟨#[]⟩),(.slice none 0 0),(.slice none 0 0),(.slice none 0 0),(.int .u8 0),(.int .u8 0),(.int .u8 0),(.int .u8 0),(.int .u8 0),(.slice none 0 0),(.int .i64 0),(.int .i64 0),(.int .i64 0),(.int .i64 0),(.int .i64 0),(.int .u8 0),(.int .u8 0),(.int .u8 0),(.int .i64 0),(.bool false),(.string ⟨#[]⟩)]++(List.replicate 188 ([(.int .u8 0),(.int .u8 0),(.int .u16 0)]:List Value)).flatten,true⟩
theorem tyOk44:tyOf Tryz.prog 44=some ty44:=by kernel_rfl
def ty45:Ty:=⟨(.slice 99),1,24,[(.slice none 0 0)],true⟩
theorem tyOk45:tyOf Tryz.prog 45=some ty45:=by kernel_rfl
def ty46:Ty:=⟨(.slice 123),1,24,[(.slice none 0 0)],true⟩
theorem tyOk46:tyOf Tryz.prog 46=some ty46:=by kernel_rfl
def ty47:Ty:=⟨(.int .u64),1,8,[(.int .u64 0)],true⟩
theorem tyOk47:tyOf Tryz.prog 47=some ty47:=by kernel_rfl
def ty48:Ty:=⟨(.int .u64),1,8,[(.int .u64 0)],true⟩
theorem tyOk48:tyOf Tryz.prog 48=some ty48:=by kernel_rfl
def ty50:Ty:=⟨(.struct [(5,0,true),(48,1,true),(4,2,true)]),3,24,[(.int .u8 0),(.int .u64 0),(.bool false)],true⟩
theorem tyOk50:tyOf Tryz.prog 50=some ty50:=by kernel_rfl
def ty51:Ty:=⟨(.array 4 5),4,4,[(.int .u8 0),(.int .u8 0),(.int .u8 0),(.int .u8 0)],true⟩
theorem tyOk51:tyOf Tryz.prog 51=some ty51:=by kernel_rfl
def ty52:Ty:=⟨(.array 4 5),4,4,[(.int .u8 0),(.int .u8 0),(.int .u8 0),(.int .u8 0)],true⟩
theorem tyOk52:tyOf Tryz.prog 52=some ty52:=by kernel_rfl
def ty54:Ty:=⟨(.struct [(5,0,true),(5,1,true),(50,2,true),(5,5,true),(5,6,true),(52,7,true)]),11,40,[(.int .u8 0),(.int .u8 0),(.int .u8 0),(.int .u64 0),(.bool false),(.int .u8 0),(.int .u8 0),(.int .u8 0),(.int .u8 0),(.int .u8 0),(.int .u8 0)],true⟩
theorem tyOk54:tyOf Tryz.prog 54=some ty54:=by kernel_rfl
def ty55:Ty:=⟨(.array 6 54),66,240,[(.int .u8 0),(.int .u8 0),(.int .u8 0),(.int .u64 0),(.bool false),(.int .u8 0),(.int .u8 0),(.int .u8 0),(.int .u8 0),(.int .u8 0),(.int .u8 0),(.int .u8 0),(.int .u8 0),(.int .u8 0),(.int .u64 0),(.bool false),(.int .u8 0),(.int .u8 0),(.int .u8 0),(.int .u8 0),(.int .u8 0),(.int .u8 0),(.int .u8 0),(.int .u8 0),(.int .u8 0),(.int .u64 0),(.bool false),(.int .u8 0),(.int .u8 0),(.int .u8 0),(.int .u8 0),(.int .u8 0),(.int .u8 0),(.int .u8 0),(.int .u8 0),(.int .u8 0),(.int .u64 0),(.bool false),(.int .u8 0),(.int .u8 0),(.int .u8 0),(.int .u8 0),(.int .u8 0),(.int .u8 0),(.int .u8 0),(.int .u8 0),(.int .u8 0),(.int .u64 0),(.bool false),(.int .u8 0),(.int .u8 0),(.int .u8 0),(.int .u8 0),(.int .u8 0),(.int .u8 0),(.int .u8 0),(.int .u8 0),(.int .u8 0),(.int .u64 0),(.bool false)]++(List.replicate 6 ([(.int .u8 0)]:List Value)).flatten,true⟩
theorem tyOk55:tyOf Tryz.prog 55=some ty55:=by kernel_rfl
def ty56:Ty:=⟨(.slice 60),1,24,[(.slice none 0 0)],true⟩
theorem tyOk56:tyOf Tryz.prog 56=some ty56:=by kernel_rfl
def ty58:Ty:=⟨(.struct [(45,0,true),(46,1,true),(55,2,true),(56,68,true)]),69,312,[(.slice none 0 0),(.slice none 0 0),(.int .u8 0),(.int .u8 0),(.int .u8 0),(.int .u64 0),(.bool false),(.int .u8 0),(.int .u8 0),(.int .u8 0),(.int .u8 0),(.int .u8 0),(.int .u8 0),(.int .u8 0),(.int .u8 0),(.int .u8 0),(.int .u64 0),(.bool false),(.int .u8 0),(.int .u8 0),(.int .u8 0),(.int .u8 0),(.int .u8 0),(.int .u8 0),(.int .u8 0),(.int .u8 0),(.int .u8 0),(.int .u64 0),(.bool false),(.int .u8 0),(.int .u8 0),(.int .u8 0),(.int .u8 0),(.int .u8 0),(.int .u8 0),(.int .u8 0),(.int .u8 0),(.int .u8 0),(.int .u64 0),(.bool false),(.int .u8 0),(.int .u8 0),(.int .u8 0),(.int .u8 0),(.int .u8 0),(.int .u8 0),(.int .u8 0),(.int .u8 0),(.int .u8 0),(.int .u64 0),(.bool false),(.int .u8 0),(.int .u8 0),(.int .u8 0),(.int .u8 0),(.int .u8 0),(.int .u8 0),(.int .u8 0),(.int .u8 0),(.int .u8 0),(.int .u64 0),(.bool false),(.int .u8 0),(.int .u8 0),(.int .u8 0),(.int .u8 0),(.int .u8 0),(.int .u8 0),(.slice none 0 0)],true⟩
theorem tyOk58:tyOf Tryz.prog 58=some ty58:=by kernel_rfl
def ty60:Ty:=⟨(.struct [(5,0,true),(5,1,true),(5,2,true),(5,3,true),(5,4,true),(5,5,true),(4,6,true),(52,7,true)]),11,11,[(.int .u8 0),(.int .u8 0),(.int .u8 0),(.int .u8 0),(.int .u8 0),(.int .u8 0),(.bool false),(.int .u8 0),(.int .u8 0),(.int .u8 0),(.int .u8 0)],true⟩
theorem tyOk60:tyOf Tryz.prog 60=some ty60:=by kernel_rfl
def ty62:Ty:=⟨(.struct [(5,0,true),(5,1,true),(5,2,true),(60,3,true)]),14,14,[(.int .u8 0),(.int .u8 0),(.int .u8 0),(.int .u8 0),(.int .u8 0),(.int .u8 0),(.int .u8 0),(.int .u8 0),(.int .u8 0),(.bool false),(.int .u8 0),(.int .u8 0),(.int .u8 0),(.int .u8 0)],true⟩
theorem tyOk62:tyOf Tryz.prog 62=some ty62:=by kernel_rfl
def ty63:Ty:=⟨.func,1,8,[.nilFunc],true⟩
theorem tyOk63:tyOf Tryz.prog 63=some ty63:=by kernel_rfl
def ty65:Ty:=⟨(.slice 62),1,24,[(.slice none 0 0)],true⟩
theorem tyOk65:tyOf Tryz.prog 65=some ty65:=by kernel_rfl
def ty68:Ty:=⟨(.slice 211),1,24,[(.slice none 0 0)],true⟩
theorem tyOk68:tyOf Tryz.prog 68=some ty68:=by kernel_rfl
def ty69:Ty:=⟨(.int .i64),1,8,[(.int .i64 0)],true⟩
theorem tyOk69:tyOf Tryz.prog 69=some ty69:=by kernel_rfl
def ty75:Ty:=⟨(.slice 3),1,24,[(.slice none 0 0)],true⟩
theorem tyOk75:tyOf Tryz.prog 75=some ty75:=by kernel_rfl
def ty91:Ty:=⟨(.struct [(4,0,true),(5,1,true)]),2,2,[(.bool false),(.int .u8 0)],true⟩
theorem tyOk91:tyOf Tryz.prog 91=some ty91:=by kernel_rfl
def ty93:Ty:=⟨(.struct [(5,0,true),(5,1,true),(5,2,true),(91,3,true),(91,5,true),(5,7,true),(5,8,true),(5,9,true)]),10,10,[(.int .u8 0),(.int .u8 0),(.int .u8 0),(.bool false),(.int .u8 0),(.bool false),(.int .u8 0),(.int .u8 0),(.int .u8 0),(.int .u8 0)],true⟩
theorem tyOk93:tyOf Tryz.prog 93=some ty93:=by kernel_rfl
def ty95:Ty:=⟨(.slice 93),1,24,[(.slice none 0 0)],true⟩
theorem tyOk95:tyOf Tryz.prog 95=some ty95:=by kernel_rfl
def ty96:Ty:=⟨(.array 8 5),8,8,[(.int .u8 0),(.int .u8 0),(.int .u8 0),(.int .u8 0),(.int .u8 0),(.int .u8 0),(.int .u8 0),(.int .u8 0)],true⟩
theorem tyOk96:tyOf Tryz.prog 96=some ty96:=by kernel_rfl
def ty97:Ty:=⟨(.slice 189),1,24,[(.slice none 0 0)],true⟩
theorem tyOk97:tyOf Tryz.prog 97=some ty97:=by kernel_rfl
def ty99:Ty:=⟨(.struct [(5,0,true),(96,1,true),(97,9,true),(4,10,true),(4,11,true)]),12,48,[(.int .u8 0),(.int .u8 0),(.int .u8 0),(.int .u8 0),(.int .u8 0),(.int .u8 0),(.int .u8 0),(.int .u8 0),(.int .u8 0),(.slice none 0 0),(.bool false),(.bool false)],true⟩
theorem tyOk99:tyOf Tryz.prog 99=some ty99:=by kernel_rfl
def ty101:Ty:=⟨(.ptr 127),1,8,[(.pointer none)],true⟩
theorem tyOk101:tyOf Tryz.prog 101=some ty101:=by kernel_rfl
def ty107:Ty:=⟨.func,1,8,[.nilFunc],true⟩
theorem tyOk107:tyOf Tryz.prog 107=some ty107:=by kernel_rfl
def ty112:Ty:=⟨(.int .i8),1,1,[(.int .i8 0)],true⟩
theorem tyOk112:tyOf Tryz.prog 112=some ty112:=by kernel_rfl
def ty114:Ty:=⟨(.struct [(5,0,true),(5,1,true),(112,2,true),(4,3,true),(52,4,true)]),8,8,[(.int .u8 0),(.int .u8 0),(.int .i8 0),(.bool false),(.int .u8 0),(.int .u8 0),(.int .u8 0),(.int .u8 0)],true⟩
theorem tyOk114:tyOf Tryz.prog 114=some ty114:=by kernel_rfl
def ty115:Ty:=⟨(.array 4 114),32,32,[(.int .u8 0),(.int .u8 0),(.int .i8 0),(.bool false),(.int .u8 0),(.int .u8 0),(.int .u8 0),(.int .u8 0),(.int .u8 0),(.int .u8 0),(.int .i8 0),(.bool false),(.int .u8 0),(.int .u8 0),(.int .u8 0),(.int .u8 0),(.int .u8 0),(.int .u8 0),(.int .i8 0),(.bool false),(.int .u8 0),(.int .u8 0),(.int .u8 0),(.int .u8 0),(.int .u8 0),(.int .u8 0),(.int .i8 0),(.bool false)]++(List.replicate 4 ([(.int .u8 0)]:List Value)).flatten,true⟩
theorem tyOk115:tyOf Tryz.prog 115=some ty115:=by kernel_rfl
def ty116:Ty:=⟨(.array 4 115),128,128,[(.int .u8 0),(.int .u8 0),(.int .i8 0),(.bool false),(.int .u8 0),(.int .u8 0),(.int .u8 0),(.int .u8 0),(.int .u8 0),(.int .u8 0),(.int .i8 0),(.bool false),(.int .u8 0),(.int .u8 0),(.int .u8 0),(.int .u8 0),(.int .u8 0),(.int .u8 0),(.int .i8 0),(.bool false),(.int .u8 0),(.int .u8 0),(.int .u8 0),(.int .u8 0),(.int .u8 0),(.int .u8 0),(.int .i8 0),(.bool false),(.int .u8 0),(.int .u8 0),(.int .u8 0),(.int .u8 0),(.int .u8 0),(.int .u8 0),(.int .i8 0),(.bool false),(.int .u8 0),(.int .u8 0),(.int .u8 0),(.int .u8 0),(.int .u8 0),(.int .u8 0),(.int .i8 0),(.bool false),(.int .u8 0),(.int .u8 0),(.int .u8 0),(.int .u8 0),(.int .u8 0),(.int .u8 0),(.int .i8 0),(.bool false),(.int .u8 0),(.int .u8 0),(.int .u8 0),(.int .u8 0),(.int .u8 0),(.int .u8 0),(.int .i8 0),(.bool false),(.int .u8 0),(.int .u8 0),(.int .u8 0),(.int .u8 0),(.int .u8 0),(.int .u8 0),(.int .i8 0),(.bool false),(.int .u8 0),(.int .u8 0),(.int .u8 0),(.int .u8 0),(.int .u8 0),(.int .u8 0),(.int .i8 0),(.bool false),(.int .u8 0),(.int .u8 0),(.int .u8 0),(.int .u8 0),(.int .u8 0),(.int .u8 0),(.int .i8 0),(.bool false),(.int .u8 0),(.int .u8 0),(.int .u8 0),(.int .u8 0),(.int .u8 0),(.int .u8 0),(.int .i8 0),(.bool false),(.int .u8 0),(.int .u8 0),(.int .u8 0),(.int .u8 0),(.int .u8 0),(.int .u8 0),(.int .i8 0),(.bool false),(.int .u8 0),(.int .u8 0),(.int .u8 0),(.int .u8 0),(.int .u8 0),(.int .u8 0),(.int .i8 0),(.bool false),(.int .u8 0),(.int .u8 0),(.int .u8 0),(.int .u8 0),(.int .u8 0),(.int .u8 0),(.int .i8 0),(.bool false),(.int .u8 0),(.int .u8 0),(.int .u8 0),(.int .u8 0),(.int .u8 0),(.int .u8 0),(.int .i8 0),(.bool false)]++(List.replicate 4 ([(.int .u8 0)]:List Value)).flatten,true⟩
theorem tyOk116:tyOf Tryz.prog 116=some ty116:=by kernel_rfl
def ty118:Ty:=⟨(.struct [(5,0,true),(3,1,true),(51,2,true),(5,6,true)]),7,24,[(.int .u8 0),(.int .i64 0),(.int .u8 0),(.int .u8 0),(.int .u8 0),(.int .u8 0),(.int .u8 0)],true⟩
theorem tyOk118:tyOf Tryz.prog 118=some ty118:=by kernel_rfl
def ty119:Ty:=⟨(.array 4 118),28,96,[(.int .u8 0),(.int .i64 0),(.int .u8 0),(.int .u8 0),(.int .u8 0),(.int .u8 0),(.int .u8 0),(.int .u8 0),(.int .i64 0),(.int .u8 0),(.int .u8 0),(.int .u8 0),(.int .u8 0),(.int .u8 0),(.int .u8 0),(.int .i64 0),(.int .u8 0),(.int .u8 0),(.int .u8 0),(.int .u8 0),(.int .u8 0),(.int .u8 0),(.int .i64 0),(.int .u8 0),(.int .u8 0),(.int .u8 0),(.int .u8 0),(.int .u8 0)],true⟩
theorem tyOk119:tyOf Tryz.prog 119=some ty119:=by kernel_rfl
def ty121:Ty:=⟨(.struct [(5,0,true),(5,1,true),(5,2,true),(5,3,true)]),4,4,[(.int .u8 0),(.int .u8 0),(.int .u8 0),(.int .u8 0)],true⟩
theorem tyOk121:tyOf Tryz.prog 121=some ty121:=by kernel_rfl
def ty123:Ty:=⟨(.struct [(116,0,true),(119,128,true),(121,156,true)]),160,232,[(.int .u8 0),(.int .u8 0),(.int .i8 0),(.bool false),(.int .u8 0),(.int .u8 0),(.int .u8 0),(.int .u8 0),(.int .u8 0),(.int .u8 0),(.int .i8 0),(.bool false),(.int .u8 0),(.int .u8 0),(.int .u8 0),(.int .u8 0),(.int .u8 0),(.int .u8 0),(.int .i8 0),(.bool false),(.int .u8 0),(.int .u8 0),(.int .u8 0),(.int .u8 0),(.int .u8 0),(.int .u8 0),(.int .i8 0),(.bool false),(.int .u8 0),(.int .u8 0),(.int .u8 0),(.int .u8 0),(.int .u8 0),(.int .u8 0),(.int .i8 0),(.bool false),(.int .u8 0),(.int .u8 0),(.int .u8 0),(.int .u8 0),(.int .u8 0),(.int .u8 0),(.int .i8 0),(.bool false),(.int .u8 0),(.int .u8 0),(.int .u8 0),(.int .u8 0),(.int .u8 0),(.int .u8 0),(.int .i8 0),(.bool false),(.int .u8 0),(.int .u8 0),(.int .u8 0),(.int .u8 0),(.int .u8 0),(.int .u8 0),(.int .i8 0),(.bool false),(.int .u8 0),(.int .u8 0),(.int .u8 0),(.int .u8 0),(.int .u8 0),(.int .u8 0),(.int .i8 0),(.bool false),(.int .u8 0),(.int .u8 0),(.int .u8 0),(.int .u8 0),(.int .u8 0),(.int .u8 0),(.int .i8 0),(.bool false),(.int .u8 0),(.int .u8 0),(.int .u8 0),(.int .u8 0),(.int .u8 0),(.int .u8 0),(.int .i8 0),(.bool false),(.int .u8 0),(.int .u8 0),(.int .u8 0),(.int .u8 0),(.int .u8 0),(.int .u8 0),(.int .i8 0),(.bool false),(.int .u8 0),(.int .u8 0),(.int .u8 0),(.int .u8 0),(.int .u8 0),(.int .u8 0),(.int .i8 0),(.bool false),(.int .u8 0),(.int .u8 0),(.int .u8 0),(.int .u8 0),(.int .u8 0),(.int .u8 0),(.int .i8 0),(.bool false),(.int .u8 0),(.int .u8 0),(.int .u8 0),(.int .u8 0),(.int .u8 0),(.int .u8 0),(.int .i8 0),(.bool false),(.int .u8 0),(.int .u8 0),(.int .u8 0),(.int .u8 0),(.int .u8 0),(.int .u8 0),(.int .i8 0),(.bool false),(.int .u8 0),(.int .u8 0),(.int .u8 0),(.int .u8 0),(.int .u8 0),(.int .i64 0),(.int .u8 0),(.int .u8 0),(.int .u8 0),(.int .u8 0),(.int .u8 0),(.int .u8 0),(.int .i64 0),(.int .u8 0),(.int .u8 0),(.int .u8 0),(.int .u8 0),(.int .u8 0),(.int .u8 0),(.int .i64 0),(.int .u8 0),(.int .u8 0),(.int .u8 0),(.int .u8 0),(.int .u8 0),(.int .u8 0),(.int .i64 0)]++(List.replicate 9 ([(.int .u8 0)]:List Value)).flatten,true⟩
theorem tyOk123:tyOf Tryz.prog 123=some ty123:=by kernel_rfl
def ty125:Ty:=⟨(.map 5 107),1,8,[(.map none)],true⟩
theorem tyOk125:tyOf Tryz.prog 125=some ty125:=by kernel_rfl
def ty127:Ty:=⟨(.struct [(44,0,true),(58,585,true),(125,654,true),(68,655,true)]),656,1304,[(.string ⟨#[]⟩),(.slice none 0 0),(.slice none 0 0),(.slice none 0 0),(.int .u8 0),(.int .u8 0),(.int .u8 0),(.int .u8 0),(.int .u8 0),(.slice none 0 0),(.int .i64 0),(.int .i64 0),(.int .i64 0),(.int .i64 0),(.int .i64 0),(.int .u8 0),(.int .u8 0),(.int .u8 0),(.int .i64 0),(.bool false),(.string ⟨#[]⟩),(.int .u8 0),(.int .u8 0),(.int .u16 0),(.int .u8 0),(.int .u8 0),(.int .u16 0),(.int .u8 0),(.int .u8 0),(.int .u16 0),(.int .u8 0),(.int .u8 0),(.int .u16 0),(.int .u8 0),(.int .u8 0),(.int .u16 0),(.int .u8 0),(.int .u8 0),(.int .u16 0),(.int .u8 0),(.int .u8 0),(.int .u16 0),(.int .u8 0),(.int .u8 0),(.int .u16 0),(.int .u8 0),(.int .u8 0),(.int .u16 0),(.int .u8 0),(.int .u8 0),(.int .u16 0),(.int .u8 0),(.int .u8 0),(.int .u16 0),(.int .u8 0),(.int .u8 0),(.int .u16 0),(.int .u8 0),(.int .u8 0),(.int .u16 0),(.int .u8 0),(.int .u8 0),(.int .u16 0),(.int .u8 0),(.int .u8 0),(.int .u16 0),(.int .u8 0),(.int .u8 0),(.int .u16 0),(.int .u8 0),(.int .u8 0),(.int .u16 0),(.int .u8 0),(.int .u8 0),(.int .u16 0),(.int .u8 0),(.int .u8 0),(.int .u16 0),(.int .u8 0),(.int .u8 0),(.int .u16 0),(.int .u8 0),(.int .u8 0),(.int .u16 0),(.int .u8 0),(.int .u8 0),(.int .u16 0),(.int .u8 0),(.int .u8 0),(.int .u16 0),(.int .u8 0),(.int .u8 0),(.int .u16 0),(.int .u8 0),(.int .u8 0),(.int .u16 0),(.int .u8 0),(.int .u8 0),(.int .u16 0),(.int .u8 0),(.int .u8 0),(.int .u16 0),(.int .u8 0),(.int .u8 0),(.int .u16 0),(.int .u8 0),(.int .u8 0),(.int .u16 0),(.int .u8 0),(.int .u8 0),(.int .u16 0),(.int .u8 0),(.int .u8 0),(.int .u16 0),(.int .u8 0),(.int .u8 0),(.int .u16 0),(.int .u8 0),(.int .u8 0),(.int .u16 0),(.int .u8 0),(.int .u8 0),(.int .u16 0),(.int .u8 0),(.int .u8 0),(.int .u16 0),(.int .u8 0),(.int .u8 0),(.int .u16 0),(.int .u8 0),(.int .u8 0),(.int .u16 0),(.int .u8 0),(.int .u8 0),(.int .u16 0),(.int .u8 0),(.int .u8 0),(.int .u16 0),(.int .u8 0),(.int .u8 0),(.int .u16 0),(.int .u8 0),(.int .u8 0),(.int .u16 0),(.int .u8 0),(.int .u8 0),(.int .u16 0),(.int .u8 0),(.int .u8 0),(.int .u16 0),(.int .u8 0),(.int .u8 0),(.int .u16 0),(.int .u8 0),(.int .u8 0),(.int .u16 0),(.int .u8 0),(.int .u8 0),(.int .u16 0),(.int .u8 0),(.int .u8 0),(.int .u16 0),(.int .u8 0),(.int .u8 0),(.int .u16 0),(.int .u8 0),(.int .u8 0),(.int .u16 0),(.int .u8 0),(.int .u8 0),(.int .u16 0),(.int .u8 0),(.int .u8 0),(.int .u16 0),(.int .u8 0),(.int .u8 0),(.int .u16 0),(.int .u8 0),(.int .u8 0),(.int .u16 0),(.int .u8 0),(.int .u8 0),(.int .u16 0),(.int .u8 0),(.int .u8 0),(.int .u16 0),(.int .u8 0),(.int .u8 0),(.int .u16 0),(.int .u8 0),(.int .u8 0),(.int .u16 0),(.int .u8 0),(.int .u8 0),(.int .u16 0),(.int .u8 0),(.int .u8 0),(.int .u16 0),(.int .u8 0),(.int .u8 0),(.int .u16 0),(.int .u8 0),(.int .u8 0),(.int .u16 0),(.int .u8 0),(.int .u8 0),(.int .u16 0),(.int .u8 0),(.int .u8 0),(.int .u16 0),(.int .u8 0),(.int .u8 0),(.int .u16 0),(.int .u8 0),(.int .u8 0),(.int .u16 0),(.int .u8 0),(.int .u8 0),(.int .u16 0),(.int .u8 0),(.int .u8 0),(.int .u16 0),(.int .u8 0),(.int .u8 0),(.int .u16 0),(.int .u8 0),(.int .u8 0),(.int .u16 0),(.int .u8 0),(.int .u8 0),(.int .u16 0),(.int .u8 0),(.int .u8 0),(.int .u16 0),(.int .u8 0),(.int .u8 0),(.int .u16 0),(.int .u8 0),(.int .u8 0),(.int .u16 0),(.int .u8 0),(.int .u8 0),(.int .u16 0),(.int .u8 0),(.int .u8 0),(.int .u16 0),(.int .u8 0),(.int .u8 0),(.int .u16 0),(.int .u8 0),(.int .u8 0),(.int .u16 0),(.int .u8 0),(.int .u8 0),(.int .u16 0),(.int .u8 0),(.int .u8 0),(.int .u16 0),(.int .u8 0),(.int .u8 0),(.int .u16 0),(.int .u8 0),(.int .u8 0),(.int .u16 0),(.int .u8 0),(.int .u8 0),(.int .u16 0),(.int .u8 0),(.int .u8 0),(.int .u16 0),(.int .u8 0),(.int .u8 0),(.int .u16 0),(.int .u8 0),(.int .u8 0),(.int .u16 0),(.int .u8 0),(.int .u8 0),(.int .u16 0),(.int .u8 0),(.int .u8 0),(.int .u16 0),(.int .u8 0),(.int .u8 0),(.int .u16 0),(.int .u8 0),(.int .u8 0),(.int .u16 0),(.int .u8 0),(.int .u8 0),(.int .u16 0),(.int .u8 0),(.int .u8 0),(.int .u16 0),(.int .u8 0),(.int .u8 0),(.int .u16 0),(.int .u8 0),(.int .u8 0),(.int .u16 0),(.int .u8 0),(.int .u8 0),(.int .u16 0),(.int .u8 0),(.int .u8 0),(.int .u16 0),(.int .u8 0),(.int .u8 0),(.int .u16 0),(.int .u8 0),(.int .u8 0),(.int .u16 0),(.int .u8 0),(.int .u8 0),(.int .u16 0),(.int .u8 0),(.int .u8 0),(.int .u16 0),(.int .u8 0),(.int .u8 0),(.int .u16 0),(.int .u8 0),(.int .u8 0),(.int .u16 0),(.int .u8 0),(.int .u8 0),(.int .u16 0),(.int .u8 0),(.int .u8 0),(.int .u16 0),(.int .u8 0),(.int .u8 0),(.int .u16 0),(.int .u8 0),(.int .u8 0),(.int .u16 0),(.int .u8 0),(.int .u8 0),(.int .u16 0),(.int .u8 0),(.int .u8 0),(.int .u16 0),(.int .u8 0),(.int .u8 0),(.int .u16 0),(.int .u8 0),(.int .u8 0),(.int .u16 0),(.int .u8 0),(.int .u8 0),(.int .u16 0),(.int .u8 0),(.int .u8 0),(.int .u16 0),(.int .u8 0),(.int .u8 0),(.int .u16 0),(.int .u8 0),(.int .u8 0),(.int .u16 0),(.int .u8 0),(.int .u8 0),(.int .u16 0),(.int .u8 0),(.int .u8 0),(.int .u16 0),(.int .u8 0),(.int .u8 0),(.int .u16 0),(.int .u8 0),(.int .u8 0),(.int .u16 0),(.int .u8 0),(.int .u8 0),(.int .u16 0),(.int .u8 0),(.int .u8 0),(.int .u16 0),(.int .u8 0),(.int .u8 0),(.int .u16 0),(.int .u8 0),(.int .u8 0),(.int .u16 0),(.int .u8 0),(.int .u8 0),(.int .u16 0),(.int .u8 0),(.int .u8 0),(.int .u16 0),(.int .u8 0),(.int .u8 0),(.int .u16 0),(.int .u8 0),(.int .u8 0),(.int .u16 0),(.int .u8 0),(.int .u8 0),(.int .u16 0),(.int .u8 0),(.int .u8 0),(.int .u16 0),(.int .u8 0),(.int .u8 0),(.int .u16 0),(.int .u8 0),(.int .u8 0),(.int .u16 0),(.int .u8 0),(.int .u8 0),(.int .u16 0),(.int .u8 0),(.int .u8 0),(.int .u16 0),(.int .u8 0),(.int .u8 0),(.int .u16 0),(.int .u8 0),(.int .u8 0),(.int .u16 0),(.int .u8 0),(.int .u8 0),(.int .u16 0),(.int .u8 0),(.int .u8 0),(.int .u16 0),(.int .u8 0),(.int .u8 0),(.int .u16 0),(.int .u8 0),(.int .u8 0),(.int .u16 0),(.int .u8 0),(.int .u8 0),(.int .u16 0),(.int .u8 0),(.int .u8 0),(.int .u16 0),(.int .u8 0),(.int .u8 0),(.int .u16 0),(.int .u8 0),(.int .u8 0),(.int .u16 0),(.int .u8 0),(.int .u8 0),(.int .u16 0),(.int .u8 0),(.int .u8 0),(.int .u16 0),(.int .u8 0),(.int .u8 0),(.int .u16 0),(.int .u8 0),(.int .u8 0),(.int .u16 0),(.int .u8 0),(.int .u8 0),(.int .u16 0),(.int .u8 0),(.int .u8 0),(.int .u16 0),(.int .u8 0),(.int .u8 0),(.int .u16 0),(.int .u8 0),(.int .u8 0),(.int .u16 0),(.int .u8 0),(.int .u8 0),(.int .u16 0),(.int .u8 0),(.int .u8 0),(.int .u16 0),(.int .u8 0),(.int .u8 0),(.int .u16 0),(.int .u8 0),(.int .u8 0),(.int .u16 0),(.int .u8 0),(.int .u8 0),(.int .u16 0),(.int .u8 0),(.int .u8 0),(.int .u16 0),(.int .u8 0),(.int .u8 0),(.int .u16 0),(.int .u8 0),(.int .u8 0),(.int .u16 0),(.int .u8 0),(.int .u8 0),(.int .u16 0),(.int .u8 0),(.int .u8 0),(.int .u16 0),(.int .u8 0),(.int .u8 0),(.int .u16 0),(.int .u8 0),(.int .u8 0),(.int .u16 0),(.int .u8 0),(.int .u8 0),(.int .u16 0),(.int .u8 0),(.int .u8 0),(.int .u16 0),(.int .u8 0),(.int .u8 0),(.int .u16 0),(.int .u8 0),(.int .u8 0),(.int .u16 0),(.int .u8 0),(.int .u8 0),(.int .u16 0),(.int .u8 0),(.int .u8 0),(.int .u16 0),(.int .u8 0),(.int .u8 0),(.int .u16 0),(.int .u8 0),(.int .u8 0),(.int .u16 0),(.int .u8 0),(.int .u8 0),(.int .u16 0),(.int .u8 0),(.int .u8 0),(.int .u16 0),(.int .u8 0),(.int .u8 0),(.int .u16 0),(.int .u8 0),(.int .u8 0),(.int .u16 0),(.int .u8 0),(.int .u8 0),(.int .u16 0),(.int .u8 0),(.int .u8 0),(.int .u16 0),(.int .u8 0),(.int .u8 0),(.int .u16 0),(.int .u8 0),(.int .u8 0),(.int .u16 0),(.int .u8 0),(.int .u8 0),(.int .u16 0),(.int .u8 0),(.int .u8 0),(.int .u16 0),(.int .u8 0),(.int .u8 0),(.int .u16 0),(.int .u8 0),(.int .u8 0),(.int .u16 0),(.int .u8 0),(.int .u8 0),(.int .u16 0),(.int .u8 0),(.int .u8 0),(.int .u16 0),(.int .u8 0),(.int .u8 0),(.int .u16 0),(.int .u8 0),(.int .u8 0),(.int .u16 0),(.int .u8 0),(.int .u8 0),(.int .u16 0),(.int .u8 0),(.int .u8 0),(.int .u16 0),(.int .u8 0),(.int .u8 0),(.int .u16 0),(.slice none 0 0),(.slice none 0 0),(.int .u8 0),(.int .u8 0),(.int .u8 0),(.int .u64 0),(.bool false),(.int .u8 0),(.int .u8 0),(.int .u8 0),(.int .u8 0),(.int .u8 0),(.int .u8 0),(.int .u8 0),(.int .u8 0),(.int .u8 0),(.int .u64 0),(.bool false),(.int .u8 0),(.int .u8 0),(.int .u8 0),(.int .u8 0),(.int .u8 0),(.int .u8 0),(.int .u8 0),(.int .u8 0),(.int .u8 0),(.int .u64 0),(.bool false),(.int .u8 0),(.int .u8 0),(.int .u8 0),(.int .u8 0),(.int .u8 0),(.int .u8 0),(.int .u8 0),(.int .u8 0),(.int .u8 0),(.int .u64 0),(.bool false),(.int .u8 0),(.int .u8 0),(.int .u8 0),(.int .u8 0),(.int .u8 0),(.int .u8 0),(.int .u8 0),(.int .u8 0),(.int .u8 0),(.int .u64 0),(.bool false),(.int .u8 0),(.int .u8 0),(.int .u8 0),(.int .u8 0),(.int .u8 0),(.int .u8 0),(.int .u8 0),(.int .u8 0),(.int .u8 0),(.int .u64 0),(.bool false),(.int .u8 0),(.int .u8 0),(.int .u8 0),(.int .u8 0),(.int .u8 0),(.int .u8 0),(.slice none 0 0),(.map none),(.slice none 0 0)],true⟩
theorem tyOk127:tyOf Tryz.prog 127=some ty127:=by kernel_rfl
def ty163:Ty:=⟨(.array 3 5),3,3,[(.int .u8 0),(.int .u8 0),(.int .u8 0)],true⟩
theorem tyOk163:tyOf Tryz.prog 163=some ty163:=by kernel_rfl
def ty167:Ty:=⟨(.slice 171),1,24,[(.slice none 0 0)],true⟩
theorem tyOk167:tyOf Tryz.prog 167=some ty167:=by kernel_rfl
def ty169:Ty:=⟨(.ptr 29),1,8,[(.pointer none)],true⟩
theorem tyOk169:tyOf Tryz.prog 169=some ty169:=by kernel_rfl
def ty171:Ty:=⟨(.struct [(69,0,true),(63,1,true)]),2,16,[(.int .i64 0),.nilFunc],true⟩
theorem tyOk171:tyOf Tryz.prog 171=some ty171:=by kernel_rfl
def ty172:Ty:=⟨(.array 5 3),5,40,[(.int .i64 0),(.int .i64 0),(.int .i64 0),(.int .i64 0),(.int .i64 0)],true⟩
theorem tyOk172:tyOf Tryz.prog 172=some ty172:=by kernel_rfl
def ty177:Ty:=⟨(.int .i64),1,8,[(.int .i64 0)],true⟩
theorem tyOk177:tyOf Tryz.prog 177=some ty177:=by kernel_rfl
def ty179:Ty:=⟨(.struct [(9,0,true),(177,1,true),(177,2,true),(177,3,true)]),4,40,[(.string ⟨#[]⟩),(.int .i64 0),(.int .i64 0),(.int .i64 0)],true⟩
theorem tyOk179:tyOf Tryz.prog 179=some ty179:=by kernel_rfl
def ty181:Ty:=⟨(.struct [(179,0,true),(3,4,true),(3,5,true)]),6,56,[(.string ⟨#[]⟩),(.int .i64 0),(.int .i64 0),(.int .i64 0),(.int .i64 0),(.int .i64 0)],true⟩
theorem tyOk181:tyOf Tryz.prog 181=some ty181:=by kernel_rfl
def ty185:Ty:=⟨(.ptr 42),1,8,[(.pointer none)],true⟩
theorem tyOk185:tyOf Tryz.prog 185=some ty185:=by kernel_rfl
def ty189:Ty:=⟨(.struct [(5,0,true),(5,1,true)]),2,2,[(.int .u8 0),(.int .u8 0)],true⟩
theorem tyOk189:tyOf Tryz.prog 189=some ty189:=by kernel_rfl
def ty199:Ty:=⟨(.struct [(31,0,true)]),5,40,[(.int .i64 0),(.int .i64 0),(.int .i64 0),(.int .i64 0),(.int .i64 0)],true⟩
theorem tyOk199:tyOf Tryz.prog 199=some ty199:=by kernel_rfl
def ty211:Ty:=⟨(.struct [(5,0,true),(121,1,true),(5,5,true),(5,6,true)]),7,7,[(.int .u8 0),(.int .u8 0),(.int .u8 0),(.int .u8 0),(.int .u8 0),(.int .u8 0),(.int .u8 0)],true⟩
theorem tyOk211:tyOf Tryz.prog 211=some ty211:=by kernel_rfl
def ty240:Ty:=⟨.func,1,8,[.nilFunc],true⟩
theorem tyOk240:tyOf Tryz.prog 240=some ty240:=by kernel_rfl
def ty253:Ty:=⟨.func,1,8,[.nilFunc],true⟩
theorem tyOk253:tyOf Tryz.prog 253=some ty253:=by kernel_rfl
def ty254:Ty:=⟨.func,1,8,[.nilFunc],true⟩
theorem tyOk254:tyOf Tryz.prog 254=some ty254:=by kernel_rfl
def ty282:Ty:=⟨(.struct [(99,0,true),(95,12,true),(93,13,true)]),23,88,[(.int .u8 0),(.int .u8 0),(.int .u8 0),(.int .u8 0),(.int .u8 0),(.int .u8 0),(.int .u8 0),(.int .u8 0),(.int .u8 0),(.slice none 0 0),(.bool false),(.bool false),(.slice none 0 0),(.int .u8 0),(.int .u8 0),(.int .u8 0),(.bool false),(.int .u8 0),(.bool false),(.int .u8 0),(.int .u8 0),(.int .u8 0),(.int .u8 0)],true⟩
theorem tyOk282:tyOf Tryz.prog 282=some ty282:=by kernel_rfl
def ty283:Ty:=⟨.func,1,8,[.nilFunc],true⟩
theorem tyOk283:tyOf Tryz.prog 283=some ty283:=by kernel_rfl
def ty285:Ty:=⟨(.ptr 282),1,8,[(.pointer none)],true⟩
theorem tyOk285:tyOf Tryz.prog 285=some ty285:=by kernel_rfl
def ty286:Ty:=⟨(.map 5 283),1,8,[(.map none)],true⟩
theorem tyOk286:tyOf Tryz.prog 286=some ty286:=by kernel_rfl
def ty296:Ty:=⟨.func,1,8,[.nilFunc],true⟩
theorem tyOk296:tyOf Tryz.prog 296=some ty296:=by kernel_rfl
def ty299:Ty:=⟨(.ptr 309),1,8,[(.pointer none)],true⟩
theorem tyOk299:tyOf Tryz.prog 299=some ty299:=by kernel_rfl
def ty309:Ty:=⟨(.struct [(123,0,true),(31,160,true),(5,165,true),(114,166,true),(5,174,true),(60,175,true),(4,186,true),(4,187,true),(4,188,true),(56,189,true),(68,190,true)]),191,344,[(.int .u8 0),(.int .u8 0),(.int .i8 0),(.bool false),(.int .u8 0),(.int .u8 0),(.int .u8 0),(.int .u8 0),(.int .u8 0),(.int .u8 0),(.int .i8 0),(.bool false),(.int .u8 0),(.int .u8 0),(.int .u8 0),(.int .u8 0),(.int .u8 0),(.int .u8 0),(.int .i8 0),(.bool false),(.int .u8 0),(.int .u8 0),(.int .u8 0),(.int .u8 0),(.int .u8 0),(.int .u8 0),(.int .i8 0),(.bool false),(.int .u8 0),(.int .u8 0),(.int .u8 0),(.int .u8 0),(.int .u8 0),(.int .u8 0),(.int .i8 0),(.bool false),(.int .u8 0),(.int .u8 0),(.int .u8 0),(.int .u8 0),(.int .u8 0),(.int .u8 0),(.int .i8 0),(.bool false),(.int .u8 0),(.int .u8 0),(.int .u8 0),(.int .u8 0),(.int .u8 0),(.int .u8 0),(.int .i8 0),(.bool false),(.int .u8 0),(.int .u8 0),(.int .u8 0),(.int .u8 0),(.int .u8 0),(.int .u8 0),(.int .i8 0),(.bool false),(.int .u8 0),(.int .u8 0),(.int .u8 0),(.int .u8 0),(.int .u8 0),(.int .u8 0),(.int .i8 0),(.bool false),(.int .u8 0),(.int .u8 0),(.int .u8 0),(.int .u8 0),(.int .u8 0),(.int .u8 0),(.int .i8 0),(.bool false),(.int .u8 0),(.int .u8 0),(.int .u8 0),(.int .u8 0),(.int .u8 0),(.int .u8 0),(.int .i8 0),(.bool false),(.int .u8 0),(.int .u8 0),(.int .u8 0),(.int .u8 0),(.int .u8 0),(.int .u8 0),(.int .i8 0),(.bool false),(.int .u8 0),(.int .u8 0),(.int .u8 0),(.int .u8 0),(.int .u8 0),(.int .u8 0),(.int .i8 0),(.bool false),(.int .u8 0),(.int .u8 0),(.int .u8 0),(.int .u8 0),(.int .u8 0),(.int .u8 0),(.int .i8 0),(.bool false),(.int .u8 0),(.int .u8 0),(.int .u8 0),(.int .u8 0),(.int .u8 0),(.int .u8 0),(.int .i8 0),(.bool false),(.int .u8 0),(.int .u8 0),(.int .u8 0),(.int .u8 0),(.int .u8 0),(.int .u8 0),(.int .i8 0),(.bool false),(.int .u8 0),(.int .u8 0),(.int .u8 0),(.int .u8 0),(.int .u8 0),(.int .i64 0),(.int .u8 0),(.int .u8 0),(.int .u8 0),(.int .u8 0),(.int .u8 0),(.int .u8 0),(.int .i64 0),(.int .u8 0),(.int .u8 0),(.int .u8 0),(.int .u8 0),(.int .u8 0),(.int .u8 0),(.int .i64 0),(.int .u8 0),(.int .u8 0),(.int .u8 0),(.int .u8 0),(.int .u8 0),(.int .u8 0),(.int .i64 0),(.int .u8 0),(.int .u8 0),(.int .u8 0),(.int .u8 0),(.int .u8 0),(.int .u8 0),(.int .u8 0),(.int .u8 0),(.int .u8 0),(.int .i64 0),(.int .i64 0),(.int .i64 0),(.int .i64 0),(.int .i64 0),(.int .u8 0),(.int .u8 0),(.int .u8 0),(.int .i8 0),(.bool false),(.int .u8 0),(.int .u8 0),(.int .u8 0),(.int .u8 0),(.int .u8 0),(.int .u8 0),(.int .u8 0),(.int .u8 0),(.int .u8 0),(.int .u8 0),(.int .u8 0),(.bool false),(.int .u8 0),(.int .u8 0),(.int .u8 0),(.int .u8 0),(.bool false),(.bool false),(.bool false),(.slice none 0 0),(.slice none 0 0)],true⟩
theorem tyOk309:tyOf Tryz.prog 309=some ty309:=by kernel_rfl
def ty316:Ty:=⟨(.struct [(54,0,true),(31,11,true),(5,16,true),(60,17,true),(5,28,true),(56,29,true)]),30,120,[(.int .u8 0),(.int .u8 0),(.int .u8 0),(.int .u64 0),(.bool false),(.int .u8 0),(.int .u8 0),(.int .u8 0),(.int .u8 0),(.int .u8 0),(.int .u8 0),(.int .i64 0),(.int .i64 0),(.int .i64 0),(.int .i64 0),(.int .i64 0),(.int .u8 0),(.int .u8 0),(.int .u8 0),(.int .u8 0),(.int .u8 0),(.int .u8 0),(.int .u8 0),(.bool false),(.int .u8 0),(.int .u8 0),(.int .u8 0),(.int .u8 0),(.int .u8 0),(.slice none 0 0)],true⟩
theorem tyOk316:tyOf Tryz.prog 316=some ty316:=by kernel_rfl
def ty318:Ty:=⟨(.map 163 3),1,8,[(.map none)],true⟩
theorem tyOk318:tyOf Tryz.prog 318=some ty318:=by kernel_rfl
def ty320:Ty:=⟨(.slice 325),1,24,[(.slice none 0 0)],true⟩
theorem tyOk320:tyOf Tryz.prog 320=some ty320:=by kernel_rfl
def ty323:Ty:=⟨(.int .u8),1,1,[(.int .u8 0)],true⟩
theorem tyOk323:tyOf Tryz.prog 323=some ty323:=by kernel_rfl
def ty325:Ty:=⟨(.struct [(323,0,true),(9,1,true),(3,2,true)]),3,32,[(.int .u8 0),(.string ⟨#[]⟩),(.int .i64 0)],true⟩
theorem tyOk325:tyOf Tryz.prog 325=some ty325:=by kernel_rfl
def ty328:Ty:=⟨(.struct [(93,0,true),(3,10,true),(3,11,true)]),12,32,[(.int .u8 0),(.int .u8 0),(.int .u8 0),(.bool false),(.int .u8 0),(.bool false),(.int .u8 0),(.int .u8 0),(.int .u8 0),(.int .u8 0),(.int .i64 0),(.int .i64 0)],true⟩
theorem tyOk328:tyOf Tryz.prog 328=some ty328:=by kernel_rfl
def ty329:Ty:=⟨(.slice 63),1,24,[(.slice none 0 0)],true⟩
theorem tyOk329:tyOf Tryz.prog 329=some ty329:=by kernel_rfl
def ty332:Ty:=⟨(.ptr 27),1,8,[(.pointer none)],true⟩
theorem tyOk332:tyOf Tryz.prog 332=some ty332:=by kernel_rfl
def ty335:Ty:=⟨(.array 13 5),13,13,[(.int .u8 0),(.int .u8 0),(.int .u8 0),(.int .u8 0),(.int .u8 0),(.int .u8 0),(.int .u8 0),(.int .u8 0),(.int .u8 0),(.int .u8 0),(.int .u8 0),(.int .u8 0),(.int .u8 0)],true⟩
theorem tyOk335:tyOf Tryz.prog 335=some ty335:=by kernel_rfl
def ty340:Ty:=⟨.func,1,8,[.nilFunc],true⟩
theorem tyOk340:tyOf Tryz.prog 340=some ty340:=by kernel_rfl
def ty342:Ty:=⟨(.struct [(31,0,true)]),5,40,[(.int .i64 0),(.int .i64 0),(.int .i64 0),(.int .i64 0),(.int .i64 0)],true⟩
theorem tyOk342:tyOf Tryz.prog 342=some ty342:=by kernel_rfl
def ty344:Ty:=⟨(.ptr 123),1,8,[(.pointer none)],true⟩
theorem tyOk344:tyOf Tryz.prog 344=some ty344:=by kernel_rfl
def ty351:Ty:=⟨.func,1,8,[.nilFunc],true⟩
theorem tyOk351:tyOf Tryz.prog 351=some ty351:=by kernel_rfl
def ty352:Ty:=⟨(.array 10 351),10,80,[.nilFunc,.nilFunc,.nilFunc,.nilFunc,.nilFunc,.nilFunc,.nilFunc,.nilFunc,.nilFunc,.nilFunc],true⟩
theorem tyOk352:tyOf Tryz.prog 352=some ty352:=by kernel_rfl
def ty355:Ty:=⟨(.slice 56),1,24,[(.slice none 0 0)],true⟩
theorem tyOk355:tyOf Tryz.prog 355=some ty355:=by kernel_rfl
def ty358:Ty:=⟨(.ptr 316),1,8,[(.pointer none)],true⟩
theorem tyOk358:tyOf Tryz.prog 358=some ty358:=by kernel_rfl
def ty359:Ty:=⟨.func,1,8,[.nilFunc],true⟩
theorem tyOk359:tyOf Tryz.prog 359=some ty359:=by kernel_rfl
def ty360:Ty:=⟨(.array 15 359),15,120,[.nilFunc,.nilFunc,.nilFunc,.nilFunc,.nilFunc,.nilFunc,.nilFunc,.nilFunc,.nilFunc,.nilFunc,.nilFunc,.nilFunc,.nilFunc,.nilFunc,.nilFunc],true⟩
theorem tyOk360:tyOf Tryz.prog 360=some ty360:=by kernel_rfl
def ty362:Ty:=⟨(.struct [(9,0,true),(3,1,true)]),2,24,[(.string ⟨#[]⟩),(.int .i64 0)],true⟩
theorem tyOk362:tyOf Tryz.prog 362=some ty362:=by kernel_rfl
def ty364:Ty:=⟨(.struct [(362,0,true),(4,2,true)]),3,32,[(.string ⟨#[]⟩),(.int .i64 0),(.bool false)],true⟩
theorem tyOk364:tyOf Tryz.prog 364=some ty364:=by kernel_rfl
def ty369:Ty:=⟨(.ptr 328),1,8,[(.pointer none)],true⟩
theorem tyOk369:tyOf Tryz.prog 369=some ty369:=by kernel_rfl
def ty371:Ty:=⟨.func,1,8,[.nilFunc],true⟩
theorem tyOk371:tyOf Tryz.prog 371=some ty371:=by kernel_rfl
def ty372:Ty:=⟨.func,1,8,[.nilFunc],true⟩
theorem tyOk372:tyOf Tryz.prog 372=some ty372:=by kernel_rfl
def ty374:Ty:=⟨(.struct [(371,0,true),(371,1,true),(372,2,true)]),3,24,[.nilFunc,.nilFunc,.nilFunc],true⟩
theorem tyOk374:tyOf Tryz.prog 374=some ty374:=by kernel_rfl
def ty376:Ty:=⟨(.map 5 374),1,8,[(.map none)],true⟩
theorem tyOk376:tyOf Tryz.prog 376=some ty376:=by kernel_rfl
def ty393:Ty:=⟨(.struct [(118,0,true)]),7,24,[(.int .u8 0),(.int .i64 0),(.int .u8 0),(.int .u8 0),(.int .u8 0),(.int .u8 0),(.int .u8 0)],true⟩
theorem tyOk393:tyOf Tryz.prog 393=some ty393:=by kernel_rfl
def ty400:Ty:=⟨(.ptr 364),1,8,[(.pointer none)],true⟩
theorem tyOk400:tyOf Tryz.prog 400=some ty400:=by kernel_rfl
def ty405:Ty:=⟨(.array 9 5),9,9,[(.int .u8 0),(.int .u8 0),(.int .u8 0),(.int .u8 0),(.int .u8 0),(.int .u8 0),(.int .u8 0),(.int .u8 0),(.int .u8 0)],true⟩
theorem tyOk405:tyOf Tryz.prog 405=some ty405:=by kernel_rfl
def ty428:Ty:=⟨.func,1,8,[.nilFunc],true⟩
theorem tyOk428:tyOf Tryz.prog 428=some ty428:=by kernel_rfl
def ty430:Ty:=⟨(.map 5 428),1,8,[(.map none)],true⟩
theorem tyOk430:tyOf Tryz.prog 430=some ty430:=by kernel_rfl
def ty433:Ty:=⟨(.struct [(50,0,true)]),3,24,[(.int .u8 0),(.int .u64 0),(.bool false)],true⟩
theorem tyOk433:tyOf Tryz.prog 433=some ty433:=by kernel_rfl
def ty444:Ty:=⟨(.ptr 362),1,8,[(.pointer none)],true⟩
theorem tyOk444:tyOf Tryz.prog 444=some ty444:=by kernel_rfl
def ty447:Ty:=⟨(.array 64 5),64,64,(List.replicate 64 ([(.int .u8 0)]:List Value)).flatten,true⟩
theorem tyOk447:tyOf Tryz.prog 447=some ty447:=by kernel_rfl
def passing:List Nat:=[24,29,30,31,36,58,59,60,61,62,63,66,67,69,71,72,74,83,102,103,104,106,107,109,113,116,117,121,124,127,129,130,132,133,134,136,137,139,140,142,148,161,162,163,164,165,167,168,169,170,171,172,173,175,180,182,183,184,185,186,189,190,197,198,203,204,218,221,224,228,229,230,231,234,235,236,237,238,239,240,241,242,243,244,245,246,247,248,249,254,255,256,257,258,259,260,262,263,264,285,286,288,289,290,291,292,293,294,295,296,297,298,302,303,304,305,308,309,312,315,316,331,332,339,340,341,342,344,349,353,354,355,356]
def kpL(a b:List Nat)(l:List (List Nat))(i:Nat):List Nat:=bif Nat.beq i 1000000 then a else bif Nat.beq i 2000000 then b else l.getD i []
structure Got(a:M) where
 m:M
 h:a=m
def bodyOf(f:Func):Code:=f.body.getD .skip
theorem fk{f:FuncId}{F:Func}{nt:Nat}{kp:Nat→List Nat}{m:M}{res:List ResultVar}{md:Mode}(h:Tryz.prog.funcs[f]?=some F)(g:cmp nt kp (bodyOf F)=m)(h1:F.body=some (bodyOf F):=by rfl)(h2:F.ntmps=nt:=by rfl)(h3:F.results.toList=res:=by kernel_rfl)(h4:(F.name== "runtime.NumGoroutine")=false:=by kernel_rfl):FnOk Tryz.prog f ⟨nt,res,m,md⟩:=⟨F,_,kp,h,h1,h2,h3,h4,g⟩
abbrev UL(a b:M):Prop:=∀{C:Ctx} {k:List It} {st:St} {Q:Ex→St→Prop},RunK C (.code a::k) st Q↔RunK C (.code b::k) st Q
theorem ul{a:M}{C:Ctx}{k:List It}{st:St}{Q:Ex→St→Prop}:RunK C (.code a::k) st Q↔RunK C (.code a::k) st Q:=Iff.rfl
def loopsM:M→List M
 |.seq a b=>loopsM a++loopsM b
 |.cond _ a b=>loopsM a++loopsM b
 |.block _ a=>loopsM a
 |.loop a=>a::loopsM a
 |.rf _ _ _ _ a b=>(a::loopsM a)++(b::loopsM b)
 |_=>[]
def g3:Got (cmp 96 (kpL passing [] [[0,1,2],[3,4,5],[],[3,4,5],[],[3,4,5],[3,4,5,7],[7],[3,4,5,7],[3,4,5,7,10],[],[3,4,7],[3,4,7,11],[3,4,7,11],[3,4,7,11],[3,4,7,11,14],[],[]]) (bodyOf Tryz.f3)):=by
 refine⟨?m,?h⟩
 case h=>conv=>lhs;reduce
def m3:M:=g3.m
def fn3:MFn:=⟨96,[.tmp 6],m3,.shut⟩
theorem fnOk3:FnOk Tryz.prog 3 fn3:=fk Tryz.func3 g3.h
def g3_l0:Got ((loopsM m3).getD 0 .bad):=by
 refine⟨?m,?h⟩
 case h=>conv=>lhs;cbv
def m3_l0:M:=g3_l0.m
theorem u3_l0:UL m3_l0 g3_l0.m:=ul
def g6:Got (cmp 86 (kpL passing [] [[],[],[1],[1,2,3],[1,2,3,4],[1,2,3,4,6],[1,2,3,4,6,7],[1,2,3,4,6,7,9],[3,4,6,7,9,10],[3,4,6,7,9,10,11,12,13],[3,4,6,7,9,10,11,12,13,14],[],[7,10,12,13,14]]) (bodyOf Tryz.f6)):=by
 refine⟨?m,?h⟩
 case h=>conv=>lhs;cbv
def m6:M:=g6.m
def fn6:MFn:=⟨86,[.tmp 0],m6,.shut⟩
theorem fnOk6:FnOk Tryz.prog 6 fn6:=fk Tryz.func6 g6.h
def g7:Got (cmp 46 (kpL passing [] [[0,1],[2,3],[2,3,5],[2,3,5,6],[2,3,5,6],[2,3,5,6],[2,5]]) (bodyOf Tryz.f7)):=by
 refine⟨?m,?h⟩
 case h=>conv=>lhs;cbv
def m7:M:=g7.m
def fn7:MFn:=⟨46,[.tmp 4],m7,.shut⟩
theorem fnOk7:FnOk Tryz.prog 7 fn7:=fk Tryz.func7 g7.h
def g7_l0:Got ((loopsM m7).getD 0 .bad):=by
 refine⟨?m,?h⟩
 case h=>conv=>lhs;cbv
def m7_l0:M:=g7_l0.m
theorem u7_l0:UL m7_l0 g7_l0.m:=ul
def g8:Got (cmp 36 (kpL passing [5,6] [[0,1],[2,3,4],[],[2,3,4],[4,5],[4,5,6],[5,6,19],[5,6,7],[6,7,9],[6,7],[6,7,26],[6,7,26],[6,7,26],[6]]) (bodyOf Tryz.f8)):=by
 refine⟨?m,?h⟩
 case h=>conv=>lhs;reduce
def m8:M:=g8.m
def fn8:MFn:=⟨36,[.tmp 4],m8,.norm⟩
theorem fnOk8:FnOk Tryz.prog 8 fn8:=fk Tryz.func8 g8.h
def g8_l0:Got ((loopsM m8).getD 0 .bad):=by
 refine⟨?m,?h⟩
 case h=>conv=>lhs;cbv
def m8_l0:M:=g8_l0.m
theorem u8_l0:UL m8_l0 g8_l0.m:=ul
def g8_l1:Got ((loopsM m8).getD 1 .bad):=by
 refine⟨?m,?h⟩
 case h=>conv=>lhs;cbv
def m8_l1:M:=g8_l1.m
theorem u8_l1:UL m8_l1 g8_l1.m:=ul
def g9:Got (cmp 61 (kpL passing [] [[0],[1],[1,3]]) (bodyOf Tryz.f9)):=by
 refine⟨?m,?h⟩
 case h=>conv=>lhs;cbv
def m9:M:=g9.m
def fn9:MFn:=⟨61,[.tmp 2],m9,.shut⟩
theorem fnOk9:FnOk Tryz.prog 9 fn9:=fk Tryz.func9 g9.h
def g10:Got (cmp 77 (kpL passing [] [[0,1],[2,3],[],[3],[3,39,40],[3,39,40],[3,5,39,40],[],[3,39,40],[3],[3,54,55],[3,54,55],[3,6,54,55],[3,54,55,63,64],[3,54,55,63,64],[3,8,54,55,63,64],[],[3,54,55,63,64],[3,54,55],[]]) (bodyOf Tryz.f10)):=by
 refine⟨?m,?h⟩
 case h=>conv=>lhs;cbv
def m10:M:=g10.m
def fn10:MFn:=⟨77,[.tmp 4],m10,.shut⟩
theorem fnOk10:FnOk Tryz.prog 10 fn10:=fk Tryz.func10 g10.h
def g10_l0:Got ((loopsM m10).getD 0 .bad):=by
 refine⟨?m,?h⟩
 case h=>conv=>lhs;cbv
def m10_l0:M:=g10_l0.m
theorem u10_l0:UL m10_l0 g10_l0.m:=ul
def g10_l1:Got ((loopsM m10).getD 1 .bad):=by
 refine⟨?m,?h⟩
 case h=>conv=>lhs;cbv
def m10_l1:M:=g10_l1.m
theorem u10_l1:UL m10_l1 g10_l1.m:=ul
def g10_l2:Got ((loopsM m10).getD 2 .bad):=by
 refine⟨?m,?h⟩
 case h=>conv=>lhs;cbv
def m10_l2:M:=g10_l2.m
theorem u10_l2:UL m10_l2 g10_l2.m:=ul
def g11:Got (cmp 53 (kpL passing [] [[0,1,2],[3,4,5,6],[6],[3,4,5,6],[6],[3,4,5,6],[5,6,9],[6,9,10,11],[6,11],[6,9,10],[6,9],[6],[6,9]]) (bodyOf Tryz.f11)):=by
 refine⟨?m,?h⟩
 case h=>conv=>lhs;reduce
def m11:M:=g11.m
def fn11:MFn:=⟨53,[.cell 6 58,.tmp 7,.tmp 8],m11,.norm⟩
theorem fnOk11:FnOk Tryz.prog 11 fn11:=fk Tryz.func11 g11.h
def g12:Got (cmp 18 (kpL passing [] [[0,1],[0,3],[0,3,5],[0,3,5],[0,3,5],[],[]]) (bodyOf Tryz.f12)):=by
 refine⟨?m,?h⟩
 case h=>conv=>lhs;reduce
def m12:M:=g12.m
def fn12:MFn:=⟨18,[.tmp 4],m12,.shut⟩
theorem fnOk12:FnOk Tryz.prog 12 fn12:=fk Tryz.func12 g12.h
def g12_l0:Got ((loopsM m12).getD 0 .bad):=by
 refine⟨?m,?h⟩
 case h=>conv=>lhs;cbv
def m12_l0:M:=g12_l0.m
theorem u12_l0:UL m12_l0 g12_l0.m:=ul
def g13:Got (cmp 13 (kpL passing [] [[0],[0]]) (bodyOf Tryz.f13)):=by
 refine⟨?m,?h⟩
 case h=>conv=>lhs;cbv
def m13:M:=g13.m
def fn13:MFn:=⟨13,[.tmp 2],m13,.shut⟩
theorem fnOk13:FnOk Tryz.prog 13 fn13:=fk Tryz.func13 g13.h
def g17:Got (cmp 84 (kpL passing [] [[0],[1,2],[2],[1,2],[1,2,4],[1,2,4,15,16],[1,2,4,15,16],[1,2,4,15,16],[1,2,4,15,16],[1,2,4],[1,2,4,39,40],[1,2,4,39,40],[1,2,4,5,39,40],[1,2,4,5,6,39,40],[1,2,4,5,6,39,40,46,47,48],[1,2,4,5,6,39,40,46,47,48],[1,2,4,5,6,8,39,40,46,47,48],[1,2,4,5,6,8,39,40,46,47,48],[1,2,4,5,6,39,40,46,47,48],[1,2,4,5,6,39,40],[1,2,4,39,40],[2,4]]) (bodyOf Tryz.f17)):=by
 refine⟨?m,?h⟩
 case h=>conv=>lhs;reduce
def m17:M:=g17.m
def fn17:MFn:=⟨84,[.cell 2 58,.tmp 3],m17,.norm⟩
theorem fnOk17:FnOk Tryz.prog 17 fn17:=fk Tryz.func17 g17.h
def g17_l0:Got ((loopsM m17).getD 0 .bad):=by
 refine⟨?m,?h⟩
 case h=>conv=>lhs;cbv
def m17_l0:M:=g17_l0.m
theorem u17_l0:UL m17_l0 g17_l0.m:=ul
def g17_l1:Got ((loopsM m17).getD 1 .bad):=by
 refine⟨?m,?h⟩
 case h=>conv=>lhs;cbv
def m17_l1:M:=g17_l1.m
theorem u17_l1:UL m17_l1 g17_l1.m:=ul
def g17_l2:Got ((loopsM m17).getD 2 .bad):=by
 refine⟨?m,?h⟩
 case h=>conv=>lhs;cbv
def m17_l2:M:=g17_l2.m
theorem u17_l2:UL m17_l2 g17_l2.m:=ul
def g19:Got (cmp 26 (kpL passing [] [[0,1],[0,1],[],[0,1],[0,1,5],[0,1,5],[0,1,5],[],[]]) (bodyOf Tryz.f19)):=by
 refine⟨?m,?h⟩
 case h=>conv=>lhs;reduce
def m19:M:=g19.m
def fn19:MFn:=⟨26,[.tmp 4],m19,.shut⟩
theorem fnOk19:FnOk Tryz.prog 19 fn19:=fk Tryz.func19 g19.h
def g19_l0:Got ((loopsM m19).getD 0 .bad):=by
 refine⟨?m,?h⟩
 case h=>conv=>lhs;cbv
def m19_l0:M:=g19_l0.m
theorem u19_l0:UL m19_l0 g19_l0.m:=ul
def g24:Got (cmp 23 (kpL passing [] [[0,1,2],[0,1,2,6],[1,2,6,7]]) (bodyOf Tryz.f24)):=by
 refine⟨?m,?h⟩
 case h=>conv=>lhs;cbv
def m24:M:=g24.m
def fn24:MFn:=⟨23,[.cell 6 44],m24,.pass⟩
theorem fnOk24:FnOk Tryz.prog 24 fn24:=fk Tryz.func24 g24.h
def g25:Got (cmp 3 (kpL passing [] [[],[0]]) (bodyOf Tryz.f25)):=by
 refine⟨?m,?h⟩
 case h=>conv=>lhs;cbv
def m25:M:=g25.m
def fn25:MFn:=⟨3,[.cell 0 93],m25,.shut⟩
theorem fnOk25:FnOk Tryz.prog 25 fn25:=fk Tryz.func25 g25.h
def g26:Got (cmp 2 (kpL passing [] [[],[0]]) (bodyOf Tryz.f26)):=by
 refine⟨?m,?h⟩
 case h=>conv=>lhs;cbv
def m26:M:=g26.m
def fn26:MFn:=⟨2,[.cell 0 93],m26,.shut⟩
theorem fnOk26:FnOk Tryz.prog 26 fn26:=fk Tryz.func26 g26.h
def g27:Got (cmp 45 (kpL passing [] [[0,1],[1,2],[1,2,5],[1,2,5,6],[1,2,5,6],[1,2,5,6],[1,2,5]]) (bodyOf Tryz.f27)):=by
 refine⟨?m,?h⟩
 case h=>conv=>lhs;cbv
def m27:M:=g27.m
def fn27:MFn:=⟨45,[.tmp 4],m27,.shut⟩
theorem fnOk27:FnOk Tryz.prog 27 fn27:=fk Tryz.func27 g27.h
def g27_l0:Got ((loopsM m27).getD 0 .bad):=by
 refine⟨?m,?h⟩
 case h=>conv=>lhs;cbv
def m27_l0:M:=g27_l0.m
theorem u27_l0:UL m27_l0 g27_l0.m:=ul
def g28:Got (cmp 12 (kpL passing [] [[0,1],[2,3]]) (bodyOf Tryz.f28)):=by
 refine⟨?m,?h⟩
 case h=>conv=>lhs;cbv
def m28:M:=g28.m
def fn28:MFn:=⟨12,[.tmp 4],m28,.shut⟩
theorem fnOk28:FnOk Tryz.prog 28 fn28:=fk Tryz.func28 g28.h
def g29:Got (cmp 26 (kpL passing [] [[0,1],[2,3],[5],[5]]) (bodyOf Tryz.f29)):=by
 refine⟨?m,?h⟩
 case h=>conv=>lhs;cbv
def m29:M:=g29.m
def fn29:MFn:=⟨26,[.tmp 4],m29,.pass⟩
theorem fnOk29:FnOk Tryz.prog 29 fn29:=fk Tryz.func29 g29.h
def g30:Got (cmp 4 (kpL passing [] [[0],[1]]) (bodyOf Tryz.f30)):=by
 refine⟨?m,?h⟩
 case h=>conv=>lhs;cbv
def m30:M:=g30.m
def fn30:MFn:=⟨4,[.tmp 2],m30,.pass⟩
theorem fnOk30:FnOk Tryz.prog 30 fn30:=fk Tryz.func30 g30.h
def g31:Got (cmp 29 (kpL passing [] [[0,1],[0,3],[],[0,3],[3,6,7],[],[3,6]]) (bodyOf Tryz.f31)):=by
 refine⟨?m,?h⟩
 case h=>conv=>lhs;reduce
def m31:M:=g31.m
def fn31:MFn:=⟨29,[.tmp 4,.tmp 5],m31,.pass⟩
theorem fnOk31:FnOk Tryz.prog 31 fn31:=fk Tryz.func31 g31.h
def g32:Got (cmp 15 (kpL passing [] [[0,1,2],[0,1,2]]) (bodyOf Tryz.f32)):=by
 refine⟨?m,?h⟩
 case h=>conv=>lhs;cbv
def m32:M:=g32.m
def fn32:MFn:=⟨15,[.tmp 6],m32,.shut⟩
theorem fnOk32:FnOk Tryz.prog 32 fn32:=fk Tryz.func32 g32.h
def g33:Got (cmp 18 (kpL passing [] [[0],[1],[5,6,7],[5,6,7],[4,5,6,7],[4],[5,6,7],[]]) (bodyOf Tryz.f33)):=by
 refine⟨?m,?h⟩
 case h=>conv=>lhs;cbv
def m33:M:=g33.m
def fn33:MFn:=⟨18,[.tmp 2],m33,.shut⟩
theorem fnOk33:FnOk Tryz.prog 33 fn33:=fk Tryz.func33 g33.h
def g33_l0:Got ((loopsM m33).getD 0 .bad):=by
 refine⟨?m,?h⟩
 case h=>conv=>lhs;cbv
def m33_l0:M:=g33_l0.m
theorem u33_l0:UL m33_l0 g33_l0.m:=ul
def g34:Got (cmp 30 (kpL passing [] [[0],[1],[15,16],[15,16],[3,4,15,16],[],[15,16],[]]) (bodyOf Tryz.f34)):=by
 refine⟨?m,?h⟩
 case h=>conv=>lhs;cbv
def m34:M:=g34.m
def fn34:MFn:=⟨30,[.tmp 2],m34,.shut⟩
theorem fnOk34:FnOk Tryz.prog 34 fn34:=fk Tryz.func34 g34.h
def g34_l0:Got ((loopsM m34).getD 0 .bad):=by
 refine⟨?m,?h⟩
 case h=>conv=>lhs;cbv
def m34_l0:M:=g34_l0.m
theorem u34_l0:UL m34_l0 g34_l0.m:=ul
def g35:Got (cmp 18 (kpL passing [1,2] [[0],[1,2],[2],[1,2],[1,2,9],[1,2,3],[2],[2]]) (bodyOf Tryz.f35)):=by
 refine⟨?m,?h⟩
 case h=>conv=>lhs;reduce
def m35:M:=g35.m
def fn35:MFn:=⟨18,[.cell 2 4],m35,.shut⟩
theorem fnOk35:FnOk Tryz.prog 35 fn35:=fk Tryz.func35 g35.h
def g35_l0:Got ((loopsM m35).getD 0 .bad):=by
 refine⟨?m,?h⟩
 case h=>conv=>lhs;cbv
def m35_l0:M:=g35_l0.m
theorem u35_l0:UL m35_l0 g35_l0.m:=ul
def g35_l1:Got ((loopsM m35).getD 1 .bad):=by
 refine⟨?m,?h⟩
 case h=>conv=>lhs;cbv
def m35_l1:M:=g35_l1.m
theorem u35_l1:UL m35_l1 g35_l1.m:=ul
def g36:Got (cmp 36 (kpL passing [] [[0],[1,2],[1,2],[1,2,10,11],[1,2,10,11],[1,2,3,10,11],[1,2,10,11],[1,2],[1,2],[1,2]]) (bodyOf Tryz.f36)):=by
 refine⟨?m,?h⟩
 case h=>conv=>lhs;reduce
def m36:M:=g36.m
def fn36:MFn:=⟨36,[.cell 2 58],m36,.pass⟩
theorem fnOk36:FnOk Tryz.prog 36 fn36:=fk Tryz.func36 g36.h
def g36_l0:Got ((loopsM m36).getD 0 .bad):=by
 refine⟨?m,?h⟩
 case h=>conv=>lhs;cbv
def m36_l0:M:=g36_l0.m
theorem u36_l0:UL m36_l0 g36_l0.m:=ul
def g42:Got (cmp 2 (kpL passing [] [[],[0]]) (bodyOf Tryz.f42)):=by
 refine⟨?m,?h⟩
 case h=>conv=>lhs;cbv
def m42:M:=g42.m
def fn42:MFn:=⟨2,[.cell 0 99],m42,.norm⟩
theorem fnOk42:FnOk Tryz.prog 42 fn42:=fk Tryz.func42 g42.h
def g43:Got (cmp 17 (kpL passing [] [[0,1],[1,2,4],[4,5,6],[4],[4,5]]) (bodyOf Tryz.f43)):=by
 refine⟨?m,?h⟩
 case h=>conv=>lhs;cbv
def m43:M:=g43.m
def fn43:MFn:=⟨17,[.cell 4 123],m43,.shut⟩
theorem fnOk43:FnOk Tryz.prog 43 fn43:=fk Tryz.func43 g43.h
def g44:Got (cmp 16 (kpL passing [] [[0],[1],[3,4],[],[3]]) (bodyOf Tryz.f44)):=by
 refine⟨?m,?h⟩
 case h=>conv=>lhs;cbv
def m44:M:=g44.m
def fn44:MFn:=⟨16,[.tmp 2],m44,.shut⟩
theorem fnOk44:FnOk Tryz.prog 44 fn44:=fk Tryz.func44 g44.h
def g45:Got (cmp 25 (kpL passing [7] [[0,1],[1,2,4],[1,4,5,6],[],[1,4,5],[1,4,5,7],[7,19],[7,8],[7]]) (bodyOf Tryz.f45)):=by
 refine⟨?m,?h⟩
 case h=>conv=>lhs;reduce
def m45:M:=g45.m
def fn45:MFn:=⟨25,[.tmp 4],m45,.shut⟩
theorem fnOk45:FnOk Tryz.prog 45 fn45:=fk Tryz.func45 g45.h
def g45_l0:Got ((loopsM m45).getD 0 .bad):=by
 refine⟨?m,?h⟩
 case h=>conv=>lhs;cbv
def m45_l0:M:=g45_l0.m
theorem u45_l0:UL m45_l0 g45_l0.m:=ul
def g45_l1:Got ((loopsM m45).getD 1 .bad):=by
 refine⟨?m,?h⟩
 case h=>conv=>lhs;cbv
def m45_l1:M:=g45_l1.m
theorem u45_l1:UL m45_l1 g45_l1.m:=ul
def g46:Got (cmp 23 (kpL passing [] [[0,1,2,3],[2,3,4,5,8],[2,3,5,8,9,10],[2,3,5,8,9],[5,8]]) (bodyOf Tryz.f46)):=by
 refine⟨?m,?h⟩
 case h=>conv=>lhs;cbv
def m46:M:=g46.m
def fn46:MFn:=⟨23,[.cell 8 52],m46,.shut⟩
theorem fnOk46:FnOk Tryz.prog 46 fn46:=fk Tryz.func46 g46.h
def g47:Got (cmp 12 (kpL passing [] [[0,1,2],[0,1,5,6]]) (bodyOf Tryz.f47)):=by
 refine⟨?m,?h⟩
 case h=>conv=>lhs;reduce
def m47:M:=g47.m
def fn47:MFn:=⟨12,[.cell 6 54],m47,.shut⟩
theorem fnOk47:FnOk Tryz.prog 47 fn47:=fk Tryz.func47 g47.h
def g56:Got (cmp 54 (kpL passing [] [[0],[0,2],[2],[0,2],[0,2,4],[0,2,4,5],[0,2,4,5],[0,2,4,5],[0,2,4,5,6],[0,2,4,5,6],[0,2,4,5,6],[0,2,4],[0,2,4,7],[0,2,4,7],[0,2,4,7],[0,2,4,7,8],[0,2,4,7,8],[0,2,4,7,8],[0,2,4],[0,2,4],[0,2,4],[2,4]]) (bodyOf Tryz.f56)):=by
 refine⟨?m,?h⟩
 case h=>conv=>lhs;cbv
def m56:M:=g56.m
def fn56:MFn:=⟨54,[.cell 2 42,.tmp 3],m56,.shut⟩
theorem fnOk56:FnOk Tryz.prog 56 fn56:=fk Tryz.func56 g56.h
def g56_l0:Got ((loopsM m56).getD 0 .bad):=by
 refine⟨?m,?h⟩
 case h=>conv=>lhs;cbv
def m56_l0:M:=g56_l0.m
theorem u56_l0:UL m56_l0 g56_l0.m:=ul
def g56_l1:Got ((loopsM m56).getD 1 .bad):=by
 refine⟨?m,?h⟩
 case h=>conv=>lhs;cbv
def m56_l1:M:=g56_l1.m
theorem u56_l1:UL m56_l1 g56_l1.m:=ul
def g56_l2:Got ((loopsM m56).getD 2 .bad):=by
 refine⟨?m,?h⟩
 case h=>conv=>lhs;cbv
def m56_l2:M:=g56_l2.m
theorem u56_l2:UL m56_l2 g56_l2.m:=ul
def g56_l3:Got ((loopsM m56).getD 3 .bad):=by
 refine⟨?m,?h⟩
 case h=>conv=>lhs;cbv
def m56_l3:M:=g56_l3.m
theorem u56_l3:UL m56_l3 g56_l3.m:=ul
def g57:Got (cmp 41 (kpL passing [] [[0,1],[1,2],[1,5],[1,5,6],[1,5,6],[1,5,6],[1,5]]) (bodyOf Tryz.f57)):=by
 refine⟨?m,?h⟩
 case h=>conv=>lhs;reduce
def m57:M:=g57.m
def fn57:MFn:=⟨41,[.tmp 4],m57,.shut⟩
theorem fnOk57:FnOk Tryz.prog 57 fn57:=fk Tryz.func57 g57.h
def g57_l0:Got ((loopsM m57).getD 0 .bad):=by
 refine⟨?m,?h⟩
 case h=>conv=>lhs;cbv
def m57_l0:M:=g57_l0.m
theorem u57_l0:UL m57_l0 g57_l0.m:=ul
def g58:Got (cmp 46 (kpL passing [] [[0,1],[2,3],[2,6],[2,6,7],[2,6,7,28],[2,6,7],[2,6,7,28],[2,6,7],[2,6,7],[]]) (bodyOf Tryz.f58)):=by
 refine⟨?m,?h⟩
 case h=>conv=>lhs;reduce
def m58:M:=g58.m
def fn58:MFn:=⟨46,[.tmp 4,.tmp 5],m58,.pass⟩
theorem fnOk58:FnOk Tryz.prog 58 fn58:=fk Tryz.func58 g58.h
def g59:Got (cmp 36 (kpL passing [] [[0,1],[0,3],[0,6],[0,6,7],[0,6,7,8,9],[],[0,6,7,8],[0,6,7,8]]) (bodyOf Tryz.f59)):=by
 refine⟨?m,?h⟩
 case h=>conv=>lhs;cbv
def m59:M:=g59.m
def fn59:MFn:=⟨36,[.tmp 4,.tmp 5],m59,.pass⟩
theorem fnOk59:FnOk Tryz.prog 59 fn59:=fk Tryz.func59 g59.h
def g60:Got (cmp 47 (kpL passing [] [[0,1],[0,3],[0,3,6],[0,6,7,8,9,10]]) (bodyOf Tryz.f60)):=by
 refine⟨?m,?h⟩
 case h=>conv=>lhs;reduce
def m60:M:=g60.m
def fn60:MFn:=⟨47,[.tmp 4,.tmp 5],m60,.pass⟩
theorem fnOk60:FnOk Tryz.prog 60 fn60:=fk Tryz.func60 g60.h
def g61:Got (cmp 76 (kpL passing [] [[0,1],[0,3],[0,3,6],[],[0,3,6],[0,3,6,8],[],[0,3,6],[0,6,9,10,11]]) (bodyOf Tryz.f61)):=by
 refine⟨?m,?h⟩
 case h=>conv=>lhs;reduce
def m61:M:=g61.m
def fn61:MFn:=⟨76,[.tmp 4,.tmp 5],m61,.pass⟩
theorem fnOk61:FnOk Tryz.prog 61 fn61:=fk Tryz.func61 g61.h
def g62:Got (cmp 144 (kpL passing [] [[0,1],[2,3],[2,6],[2,6,7],[2,6,7,8],[],[2,6,7,8],[],[2,6,7,8],[2,6,9,11],[11],[2,6,9],[2,6,9],[2,6,9,12],[2,9,12,13,14,15,16],[2,9,16,17],[2,6,9],[2,6,9],[2,6,9,18,19,20],[]]) (bodyOf Tryz.f62)):=by
 refine⟨?m,?h⟩
 case h=>conv=>lhs;reduce
def m62:M:=g62.m
def fn62:MFn:=⟨144,[.tmp 4,.tmp 5],m62,.pass⟩
theorem fnOk62:FnOk Tryz.prog 62 fn62:=fk Tryz.func62 g62.h
def g63:Got (cmp 96 (kpL passing [] [[0,1],[0,1,3],[0,1,3,20,21],[0,1,3,20,21],[0,1,3,5,20,21],[0,1,3,5,20,21,24,25],[0,1,3,5,20,21,24,25],[0,1,3,5,6,20,21,24,25],[0,1,3,5,20,21,24,25],[0,1,3,20,21],[0,1,3],[0,1,36,37],[0,1,36,37],[0,1,7,36,37],[0,1,7,36,37,46,47],[0,1,7,36,37,46,47],[0,1,7,8,36,37,46,47],[0,1,7,36,37,46,47],[0,1,36,37],[0,1],[0,1,9],[0,1,9,69,70,71],[0,1,9,69,70,71],[0,1,9,11,69,70,71],[0,1,9,12,69,70,71],[0,1,9,12,69,70,71],[0,1,9,12,69,70,71],[0,1,9,69,70,71]]) (bodyOf Tryz.f63)):=by
 refine⟨?m,?h⟩
 case h=>conv=>lhs;reduce
def m63:M:=g63.m
def fn63:MFn:=⟨96,[],m63,.pass⟩
theorem fnOk63:FnOk Tryz.prog 63 fn63:=fk Tryz.func63 g63.h
def g63_l0:Got ((loopsM m63).getD 0 .bad):=by
 refine⟨?m,?h⟩
 case h=>conv=>lhs;cbv
def m63_l0:M:=g63_l0.m
theorem u63_l0:UL m63_l0 g63_l0.m:=ul
def g63_l1:Got ((loopsM m63).getD 1 .bad):=by
 refine⟨?m,?h⟩
 case h=>conv=>lhs;cbv
def m63_l1:M:=g63_l1.m
theorem u63_l1:UL m63_l1 g63_l1.m:=ul
def g63_l2:Got ((loopsM m63).getD 2 .bad):=by
 refine⟨?m,?h⟩
 case h=>conv=>lhs;cbv
def m63_l2:M:=g63_l2.m
theorem u63_l2:UL m63_l2 g63_l2.m:=ul
def g63_l3:Got ((loopsM m63).getD 3 .bad):=by
 refine⟨?m,?h⟩
 case h=>conv=>lhs;cbv
def m63_l3:M:=g63_l3.m
theorem u63_l3:UL m63_l3 g63_l3.m:=ul
def g63_l4:Got ((loopsM m63).getD 4 .bad):=by
 refine⟨?m,?h⟩
 case h=>conv=>lhs;cbv
def m63_l4:M:=g63_l4.m
theorem u63_l4:UL m63_l4 g63_l4.m:=ul
def g64:Got (cmp 19 (kpL passing [5] [[0,1],[0,1,4],[],[0,1,4],[0,1,4,5],[5,13],[5,6],[5]]) (bodyOf Tryz.f64)):=by
 refine⟨?m,?h⟩
 case h=>conv=>lhs;reduce
def m64:M:=g64.m
def fn64:MFn:=⟨19,[.tmp 4],m64,.norm⟩
theorem fnOk64:FnOk Tryz.prog 64 fn64:=fk Tryz.func64 g64.h
def g64_l0:Got ((loopsM m64).getD 0 .bad):=by
 refine⟨?m,?h⟩
 case h=>conv=>lhs;cbv
def m64_l0:M:=g64_l0.m
theorem u64_l0:UL m64_l0 g64_l0.m:=ul
def g64_l1:Got ((loopsM m64).getD 1 .bad):=by
 refine⟨?m,?h⟩
 case h=>conv=>lhs;cbv
def m64_l1:M:=g64_l1.m
theorem u64_l1:UL m64_l1 g64_l1.m:=ul
def g65:Got (cmp 9 (kpL passing [] [[0,1],[0,3]]) (bodyOf Tryz.f65)):=by
 refine⟨?m,?h⟩
 case h=>conv=>lhs;cbv
def m65:M:=g65.m
def fn65:MFn:=⟨9,[.tmp 4],m65,.shut⟩
theorem fnOk65:FnOk Tryz.prog 65 fn65:=fk Tryz.func65 g65.h
def g66:Got (cmp 59 (kpL passing [] [[0,1],[0,3],[0,3,5],[0,3,5,23],[0,3,5,23],[0,3,5,23],[3,5],[0,3,5,23],[0,3,5],[3,23],[3],[]]) (bodyOf Tryz.f66)):=by
 refine⟨?m,?h⟩
 case h=>conv=>lhs;reduce
def m66:M:=g66.m
def fn66:MFn:=⟨59,[.tmp 4],m66,.pass⟩
theorem fnOk66:FnOk Tryz.prog 66 fn66:=fk Tryz.func66 g66.h
def g67:Got (cmp 18 (kpL passing [] [[0],[1],[1,3]]) (bodyOf Tryz.f67)):=by
 refine⟨?m,?h⟩
 case h=>conv=>lhs;cbv
def m67:M:=g67.m
def fn67:MFn:=⟨18,[.tmp 2],m67,.pass⟩
theorem fnOk67:FnOk Tryz.prog 67 fn67:=fk Tryz.func67 g67.h
def g68:Got (cmp 32 (kpL passing [] [[0],[0],[],[0],[0,14,15],[0,14,15],[0,3,14,15],[0,4,14,15],[],[0,14,15],[]]) (bodyOf Tryz.f68)):=by
 refine⟨?m,?h⟩
 case h=>conv=>lhs;cbv
def m68:M:=g68.m
def fn68:MFn:=⟨32,[.tmp 2],m68,.shut⟩
theorem fnOk68:FnOk Tryz.prog 68 fn68:=fk Tryz.func68 g68.h
def g68_l0:Got ((loopsM m68).getD 0 .bad):=by
 refine⟨?m,?h⟩
 case h=>conv=>lhs;cbv
def m68_l0:M:=g68_l0.m
theorem u68_l0:UL m68_l0 g68_l0.m:=ul
def g69:Got (cmp 1 (kpL passing [] [[],[]]) (bodyOf Tryz.f69)):=by
 refine⟨?m,?h⟩
 case h=>conv=>lhs;cbv
def m69:M:=g69.m
def fn69:MFn:=⟨1,[.tmp 0],m69,.pass⟩
theorem fnOk69:FnOk Tryz.prog 69 fn69:=fk Tryz.func69 g69.h
def g70:Got (cmp 42 (kpL passing [] [[0,1],[2,3],[2,3,6],[2,3,6],[2,3,6],[3],[2,3,6],[2,3],[3],[3],[]]) (bodyOf Tryz.f70)):=by
 refine⟨?m,?h⟩
 case h=>conv=>lhs;cbv
def m70:M:=g70.m
def fn70:MFn:=⟨42,[.tmp 4],m70,.shut⟩
theorem fnOk70:FnOk Tryz.prog 70 fn70:=fk Tryz.func70 g70.h
def g71:Got (cmp 27 (kpL passing [] [[0,1],[1,2],[1,2],[1,2]]) (bodyOf Tryz.f71)):=by
 refine⟨?m,?h⟩
 case h=>conv=>lhs;reduce
def m71:M:=g71.m
def fn71:MFn:=⟨27,[.tmp 4],m71,.pass⟩
theorem fnOk71:FnOk Tryz.prog 71 fn71:=fk Tryz.func71 g71.h
def g72:Got (cmp 8 (kpL passing [] [[0],[0],[],[0]]) (bodyOf Tryz.f72)):=by
 refine⟨?m,?h⟩
 case h=>conv=>lhs;cbv
def m72:M:=g72.m
def fn72:MFn:=⟨8,[.tmp 2],m72,.pass⟩
theorem fnOk72:FnOk Tryz.prog 72 fn72:=fk Tryz.func72 g72.h
def g73:Got (cmp 8 (kpL passing [] [[0],[0],[],[0]]) (bodyOf Tryz.f73)):=by
 refine⟨?m,?h⟩
 case h=>conv=>lhs;cbv
def m73:M:=g73.m
def fn73:MFn:=⟨8,[.tmp 2],m73,.norm⟩
theorem fnOk73:FnOk Tryz.prog 73 fn73:=fk Tryz.func73 g73.h
def g74:Got (cmp 8 (kpL passing [] [[0],[0],[],[0]]) (bodyOf Tryz.f74)):=by
 refine⟨?m,?h⟩
 case h=>conv=>lhs;cbv
def m74:M:=g74.m
def fn74:MFn:=⟨8,[.tmp 2],m74,.pass⟩
theorem fnOk74:FnOk Tryz.prog 74 fn74:=fk Tryz.func74 g74.h
def g75:Got (cmp 8 (kpL passing [] [[0],[0],[],[0]]) (bodyOf Tryz.f75)):=by
 refine⟨?m,?h⟩
 case h=>conv=>lhs;cbv
def m75:M:=g75.m
def fn75:MFn:=⟨8,[.tmp 2],m75,.norm⟩
theorem fnOk75:FnOk Tryz.prog 75 fn75:=fk Tryz.func75 g75.h
def g80:Got (cmp 32 (kpL passing [] [[0,1],[1,2,4],[4],[1,2,4],[2,4,6],[4],[2,4,6],[2,4,6,7],[4,6,7,22,23],[4,6,7,22,23],[4,6,7,8,22,23],[4,6,7,22,23],[4,7]]) (bodyOf Tryz.f80)):=by
 refine⟨?m,?h⟩
 case h=>conv=>lhs;cbv
def m80:M:=g80.m
def fn80:MFn:=⟨32,[.cell 4 123,.tmp 5],m80,.shut⟩
theorem fnOk80:FnOk Tryz.prog 80 fn80:=fk Tryz.func80 g80.h
def g80_l0:Got ((loopsM m80).getD 0 .bad):=by
 refine⟨?m,?h⟩
 case h=>conv=>lhs;cbv
def m80_l0:M:=g80_l0.m
theorem u80_l0:UL m80_l0 g80_l0.m:=ul
def g81:Got (cmp 10 (kpL passing [] [[0],[1,2],[2],[1,2]]) (bodyOf Tryz.f81)):=by
 refine⟨?m,?h⟩
 case h=>conv=>lhs;cbv
def m81:M:=g81.m
def fn81:MFn:=⟨10,[.cell 2 199,.tmp 3],m81,.shut⟩
theorem fnOk81:FnOk Tryz.prog 81 fn81:=fk Tryz.func81 g81.h
def g82:Got (cmp 11 (kpL passing [] [[0,1],[1,2]]) (bodyOf Tryz.f82)):=by
 refine⟨?m,?h⟩
 case h=>conv=>lhs;cbv
def m82:M:=g82.m
def fn82:MFn:=⟨11,[.tmp 4],m82,.shut⟩
theorem fnOk82:FnOk Tryz.prog 82 fn82:=fk Tryz.func82 g82.h
def g83:Got (cmp 6 (kpL passing [] [[0,1],[2,3]]) (bodyOf Tryz.f83)):=by
 refine⟨?m,?h⟩
 case h=>conv=>lhs;cbv
def m83:M:=g83.m
def fn83:MFn:=⟨6,[.tmp 4],m83,.pass⟩
theorem fnOk83:FnOk Tryz.prog 83 fn83:=fk Tryz.func83 g83.h
def g84:Got (cmp 11 (kpL passing [] [[0,1],[1,2]]) (bodyOf Tryz.f84)):=by
 refine⟨?m,?h⟩
 case h=>conv=>lhs;cbv
def m84:M:=g84.m
def fn84:MFn:=⟨11,[.tmp 4],m84,.shut⟩
theorem fnOk84:FnOk Tryz.prog 84 fn84:=fk Tryz.func84 g84.h
def g85:Got (cmp 16 (kpL passing [] [[0,1],[0,1,4],[4],[0,4]]) (bodyOf Tryz.f85)):=by
 refine⟨?m,?h⟩
 case h=>conv=>lhs;cbv
def m85:M:=g85.m
def fn85:MFn:=⟨16,[.cell 4 50],m85,.shut⟩
theorem fnOk85:FnOk Tryz.prog 85 fn85:=fk Tryz.func85 g85.h
def g101:Got (cmp 10 (kpL passing [] [[0],[0],[3],[],[3],[],[3],[],[]]) (bodyOf Tryz.f101)):=by
 refine⟨?m,?h⟩
 case h=>conv=>lhs;cbv
def m101:M:=g101.m
def fn101:MFn:=⟨10,[.tmp 2],m101,.shut⟩
theorem fnOk101:FnOk Tryz.prog 101 fn101:=fk Tryz.func101 g101.h
def g102:Got (cmp 41 (kpL passing [] [[0,1],[0,1],[0,1],[0,1],[0,1],[0,1],[0,1],[0,1],[0,1],[0,1],[0,1],[0,1],[0]]) (bodyOf Tryz.f102)):=by
 refine⟨?m,?h⟩
 case h=>conv=>lhs;cbv
def m102:M:=g102.m
def fn102:MFn:=⟨41,[],m102,.pass⟩
theorem fnOk102:FnOk Tryz.prog 102 fn102:=fk Tryz.func102 g102.h
def g103:Got (cmp 95 (kpL passing [] [[0,1],[0,1,4],[0,1,4,5],[0,1,4,5],[0,1,4,5],[0,1],[0,1],[0,1],[0,1],[0,1],[0,1,6],[0,1,6],[0,1,6],[0,1,6],[0,1,6],[0,1,6],[0,1],[0],[0],[0],[0],[0],[0],[0],[0],[0],[0],[0],[0],[0,7],[0,7],[0,7],[0,7]]) (bodyOf Tryz.f103)):=by
 refine⟨?m,?h⟩
 case h=>conv=>lhs;cbv
def m103:M:=g103.m
def fn103:MFn:=⟨95,[],m103,.pass⟩
theorem fnOk103:FnOk Tryz.prog 103 fn103:=fk Tryz.func103 g103.h
def g103_l0:Got ((loopsM m103).getD 0 .bad):=by
 refine⟨?m,?h⟩
 case h=>conv=>lhs;cbv
def m103_l0:M:=g103_l0.m
theorem u103_l0:UL m103_l0 g103_l0.m:=ul
def g103_l1:Got ((loopsM m103).getD 1 .bad):=by
 refine⟨?m,?h⟩
 case h=>conv=>lhs;cbv
def m103_l1:M:=g103_l1.m
theorem u103_l1:UL m103_l1 g103_l1.m:=ul
def g103_l2:Got ((loopsM m103).getD 2 .bad):=by
 refine⟨?m,?h⟩
 case h=>conv=>lhs;cbv
def m103_l2:M:=g103_l2.m
theorem u103_l2:UL m103_l2 g103_l2.m:=ul
def g104:Got (cmp 60 (kpL passing [] [[0,1],[0,1,4],[0,1,4],[0,1,4],[0,1],[0,1],[0,1],[0,1],[0,1],[0,1],[0,1],[0,1],[0,1],[0],[0],[0],[0],[0],[0],[0]]) (bodyOf Tryz.f104)):=by
 refine⟨?m,?h⟩
 case h=>conv=>lhs;cbv
def m104:M:=g104.m
def fn104:MFn:=⟨60,[],m104,.pass⟩
theorem fnOk104:FnOk Tryz.prog 104 fn104:=fk Tryz.func104 g104.h
def g104_l0:Got ((loopsM m104).getD 0 .bad):=by
 refine⟨?m,?h⟩
 case h=>conv=>lhs;cbv
def m104_l0:M:=g104_l0.m
theorem u104_l0:UL m104_l0 g104_l0.m:=ul
def g105:Got (cmp 96 (kpL passing [] [[0,1,2],[0,4,5],[0,4,5,7],[0,4,5,7,8],[7,8],[0,4,5,7,8],[4,5,7,8,9],[4,5,7,8,9,32],[4,5,7,8,9,32],[8],[4,5,7,8,9,32],[7,8,9],[4,5,7,8,9,32],[4,5,8],[4,5,8],[5,8],[5,7,8,9,32],[5,8,9],[5,8,11],[8],[5,8],[5,7,8,32],[5,7,8,32],[5,7,8,32],[5,7,8],[]]) (bodyOf Tryz.f105)):=by
 refine⟨?m,?h⟩
 case h=>conv=>lhs;cbv
def m105:M:=g105.m
def fn105:MFn:=⟨96,[.tmp 6],m105,.shut⟩
theorem fnOk105:FnOk Tryz.prog 105 fn105:=fk Tryz.func105 g105.h
def g106:Got (cmp 23 (kpL passing [] [[0,1],[0,1],[0,1],[]]) (bodyOf Tryz.f106)):=by
 refine⟨?m,?h⟩
 case h=>conv=>lhs;cbv
def m106:M:=g106.m
def fn106:MFn:=⟨23,[.tmp 4],m106,.pass⟩
theorem fnOk106:FnOk Tryz.prog 106 fn106:=fk Tryz.func106 g106.h
def g107:Got (cmp 20 (kpL passing [] [[0,1,2]]) (bodyOf Tryz.f107)):=by
 refine⟨?m,?h⟩
 case h=>conv=>lhs;reduce
def m107:M:=g107.m
def fn107:MFn:=⟨20,[],m107,.pass⟩
theorem fnOk107:FnOk Tryz.prog 107 fn107:=fk Tryz.func107 g107.h
def g108:Got (cmp 44 (kpL passing [] [[0,1,2],[0,4,5,6],[0,4,5,6,7],[6,7],[0,5,6,7],[6,7],[6,7,8],[6,7,9,10],[6,7,9],[6,7]]) (bodyOf Tryz.f108)):=by
 refine⟨?m,?h⟩
 case h=>conv=>lhs;cbv
def m108:M:=g108.m
def fn108:MFn:=⟨44,[.cell 6 99],m108,.norm⟩
theorem fnOk108:FnOk Tryz.prog 108 fn108:=fk Tryz.func108 g108.h
def g109:Got (cmp 40 (kpL passing [] [[0,1,2,3],[4,5,6,7],[],[4,5,6,7],[4,5,7,10,11],[11],[4,5,7,10]]) (bodyOf Tryz.f109)):=by
 refine⟨?m,?h⟩
 case h=>conv=>lhs;reduce
def m109:M:=g109.m
def fn109:MFn:=⟨40,[.tmp 8,.tmp 9],m109,.pass⟩
theorem fnOk109:FnOk Tryz.prog 109 fn109:=fk Tryz.func109 g109.h
def g110:Got (cmp 56 (kpL passing [] [[0,1],[0,3,4],[4],[0,3,4],[3,4,5],[3,4,5,19],[4,5],[3,4,5,19],[3,4,5,19],[3,4,5,19],[3,4,5],[3,4,5,19],[3,4,5],[4]]) (bodyOf Tryz.f110)):=by
 refine⟨?m,?h⟩
 case h=>conv=>lhs;reduce
def m110:M:=g110.m
def fn110:MFn:=⟨56,[.cell 4 121],m110,.shut⟩
theorem fnOk110:FnOk Tryz.prog 110 fn110:=fk Tryz.func110 g110.h
def g111:Got (cmp 28 (kpL passing [] [[0],[1,2],[2],[1,2]]) (bodyOf Tryz.f111)):=by
 refine⟨?m,?h⟩
 case h=>conv=>lhs;reduce
def m111:M:=g111.m
def fn111:MFn:=⟨28,[.cell 2 121,.tmp 3],m111,.shut⟩
theorem fnOk111:FnOk Tryz.prog 111 fn111:=fk Tryz.func111 g111.h
def g112:Got (cmp 123 (kpL passing [] [[0,1,2,3],[2,4,5,7,8],[7,8],[2,4,5,7,8],[7,8],[2,4,5,7,8],[7,8],[2,4,5,7,8],[2,4,5,7,8,12],[2,4,5,7,8],[2,4,5,7,8,12],[2,4,5,7,8,12,13],[2,4,5,7,8,12,13,14,15],[2,4,5,7,8,12,13,14,15,16,17],[7,8,17],[2,4,5,7,8,12,13,14,15,16],[2,4,5,7,8,12,13,14,15,16,19],[2,4,5,7,8,13],[2,4,5,7,8,13,20],[2,4,5,7,8,21,22],[7,8],[2,4,5,7,8,21],[2,4,5,7,8,12,14]]) (bodyOf Tryz.f112)):=by
 refine⟨?m,?h⟩
 case h=>conv=>lhs;cbv
def m112:M:=g112.m
def fn112:MFn:=⟨123,[.cell 8 123,.tmp 9,.tmp 10,.tmp 11],m112,.shut⟩
theorem fnOk112:FnOk Tryz.prog 112 fn112:=fk Tryz.func112 g112.h
def g113:Got (cmp 12 (kpL passing [] [[0,1,2,3,4],[5,6,7,8,9]]) (bodyOf Tryz.f113)):=by
 refine⟨?m,?h⟩
 case h=>conv=>lhs;cbv
def m113:M:=g113.m
def fn113:MFn:=⟨12,[.tmp 10],m113,.pass⟩
theorem fnOk113:FnOk Tryz.prog 113 fn113:=fk Tryz.func113 g113.h
def g114:Got (cmp 28 (kpL passing [] [[0,1,2],[2,3,4,6],[4,6,8,9,10],[6],[4,6,8,9]]) (bodyOf Tryz.f114)):=by
 refine⟨?m,?h⟩
 case h=>conv=>lhs;cbv
def m114:M:=g114.m
def fn114:MFn:=⟨28,[.cell 6 114,.tmp 7],m114,.shut⟩
theorem fnOk114:FnOk Tryz.prog 114 fn114:=fk Tryz.func114 g114.h
def g115:Got (cmp 52 (kpL passing [] [[0,1,2,3,4],[2,4,5,6,8,10],[8,10],[2,4,5,6,8,10],[2,5,6,8,10,13],[10,15,16,18]]) (bodyOf Tryz.f115)):=by
 refine⟨?m,?h⟩
 case h=>conv=>lhs;cbv
def m115:M:=g115.m
def fn115:MFn:=⟨52,[.cell 10 123,.tmp 11,.tmp 12],m115,.shut⟩
theorem fnOk115:FnOk Tryz.prog 115 fn115:=fk Tryz.func115 g115.h
def g116:Got (cmp 19 (kpL passing [] [[0,1],[0,1],[0,1,7,8],[0,1,7,8],[0,1,5,7,8],[5],[0,1,7,8],[]]) (bodyOf Tryz.f116)):=by
 refine⟨?m,?h⟩
 case h=>conv=>lhs;cbv
def m116:M:=g116.m
def fn116:MFn:=⟨19,[.tmp 4],m116,.pass⟩
theorem fnOk116:FnOk Tryz.prog 116 fn116:=fk Tryz.func116 g116.h
def g116_l0:Got ((loopsM m116).getD 0 .bad):=by
 refine⟨?m,?h⟩
 case h=>conv=>lhs;cbv
def m116_l0:M:=g116_l0.m
theorem u116_l0:UL m116_l0 g116_l0.m:=ul
def g117:Got (cmp 15 (kpL passing [] [[0,1,2],[0,1,2]]) (bodyOf Tryz.f117)):=by
 refine⟨?m,?h⟩
 case h=>conv=>lhs;reduce
def m117:M:=g117.m
def fn117:MFn:=⟨15,[.tmp 4],m117,.pass⟩
theorem fnOk117:FnOk Tryz.prog 117 fn117:=fk Tryz.func117 g117.h
def g118:Got (cmp 29 (kpL passing [] [[0,1],[0,1,5],[5],[0,1,5]]) (bodyOf Tryz.f118)):=by
 refine⟨?m,?h⟩
 case h=>conv=>lhs;reduce
def m118:M:=g118.m
def fn118:MFn:=⟨29,[.tmp 4,.cell 5 60,.tmp 6],m118,.norm⟩
theorem fnOk118:FnOk Tryz.prog 118 fn118:=fk Tryz.func118 g118.h
def g119:Got (cmp 22 (kpL passing [] [[0,1],[1,2],[1,5,6]]) (bodyOf Tryz.f119)):=by
 refine⟨?m,?h⟩
 case h=>conv=>lhs;cbv
def m119:M:=g119.m
def fn119:MFn:=⟨22,[.tmp 4],m119,.shut⟩
theorem fnOk119:FnOk Tryz.prog 119 fn119:=fk Tryz.func119 g119.h
def g120:Got (cmp 75 (kpL passing [] [[0,1,2,3,4],[2,5,6,8,9,10],[8,10],[2,5,6,8,9,10],[2,5,6,8,9,10,14],[2,5,6,8,9,10,14,16,17],[8,10],[2,5,6,8,9,10,14,16],[5,9,10,18],[5,10,18]]) (bodyOf Tryz.f120)):=by
 refine⟨?m,?h⟩
 case h=>conv=>lhs;reduce
def m120:M:=g120.m
def fn120:MFn:=⟨75,[.cell 10 123,.tmp 11,.tmp 12,.tmp 13],m120,.shut⟩
theorem fnOk120:FnOk Tryz.prog 120 fn120:=fk Tryz.func120 g120.h
def g121:Got (cmp 10 (kpL passing [] [[0,1,2],[2]]) (bodyOf Tryz.f121)):=by
 refine⟨?m,?h⟩
 case h=>conv=>lhs;cbv
def m121:M:=g121.m
def fn121:MFn:=⟨10,[],m121,.pass⟩
theorem fnOk121:FnOk Tryz.prog 121 fn121:=fk Tryz.func121 g121.h
def g122:Got (cmp 25 (kpL passing [] [[0,1],[1,2],[1,5,6]]) (bodyOf Tryz.f122)):=by
 refine⟨?m,?h⟩
 case h=>conv=>lhs;cbv
def m122:M:=g122.m
def fn122:MFn:=⟨25,[.tmp 4],m122,.shut⟩
theorem fnOk122:FnOk Tryz.prog 122 fn122:=fk Tryz.func122 g122.h
def g123:Got (cmp 86 (kpL passing [] [[0,1,2,3,4],[2,5,6,8,9,10],[8,10],[2,5,6,8,9,10],[2,5,6,8,9,10,30],[2,5,6,8,9,10,30],[8,9,10],[2,5,6,8,9,10],[2,5,6,8,9,10,13,14],[8,10],[2,5,6,8,9,10,13],[8,10],[2,5,6,8,9,10,13],[8,10],[2,5,6,8,9,10,13],[2,6,8,9,10,15],[2,6,8,9,10,15,16],[8,10,16],[2,6,8,9,10,15],[10,15,17],[10,15,17],[10,17]]) (bodyOf Tryz.f123)):=by
 refine⟨?m,?h⟩
 case h=>conv=>lhs;reduce
def m123:M:=g123.m
def fn123:MFn:=⟨86,[.cell 10 54,.tmp 11,.tmp 12],m123,.shut⟩
theorem fnOk123:FnOk Tryz.prog 123 fn123:=fk Tryz.func123 g123.h
def g124:Got (cmp 20 (kpL passing [] [[0,1,2,3,4],[1,3,4]]) (bodyOf Tryz.f124)):=by
 refine⟨?m,?h⟩
 case h=>conv=>lhs;reduce
def m124:M:=g124.m
def fn124:MFn:=⟨20,[],m124,.pass⟩
theorem fnOk124:FnOk Tryz.prog 124 fn124:=fk Tryz.func124 g124.h
def g125:Got (cmp 9 (kpL passing [] [[0,1],[0,1]]) (bodyOf Tryz.f125)):=by
 refine⟨?m,?h⟩
 case h=>conv=>lhs;cbv
def m125:M:=g125.m
def fn125:MFn:=⟨9,[.tmp 4],m125,.norm⟩
theorem fnOk125:FnOk Tryz.prog 125 fn125:=fk Tryz.func125 g125.h
def g126:Got (cmp 9 (kpL passing [] [[0],[0]]) (bodyOf Tryz.f126)):=by
 refine⟨?m,?h⟩
 case h=>conv=>lhs;cbv
def m126:M:=g126.m
def fn126:MFn:=⟨9,[.tmp 2],m126,.shut⟩
theorem fnOk126:FnOk Tryz.prog 126 fn126:=fk Tryz.func126 g126.h
def g127:Got (cmp 6 (kpL passing [] [[0,1],[2,3]]) (bodyOf Tryz.f127)):=by
 refine⟨?m,?h⟩
 case h=>conv=>lhs;cbv
def m127:M:=g127.m
def fn127:MFn:=⟨6,[.tmp 4],m127,.pass⟩
theorem fnOk127:FnOk Tryz.prog 127 fn127:=fk Tryz.func127 g127.h
def g128:Got (cmp 19 (kpL passing [] [[0,1],[0,3],[0,3,7,8],[0,3,7,8],[0,3,5,7,8],[5],[0,3,7,8],[]]) (bodyOf Tryz.f128)):=by
 refine⟨?m,?h⟩
 case h=>conv=>lhs;reduce
def m128:M:=g128.m
def fn128:MFn:=⟨19,[.tmp 4],m128,.shut⟩
theorem fnOk128:FnOk Tryz.prog 128 fn128:=fk Tryz.func128 g128.h
def g128_l0:Got ((loopsM m128).getD 0 .bad):=by
 refine⟨?m,?h⟩
 case h=>conv=>lhs;cbv
def m128_l0:M:=g128_l0.m
theorem u128_l0:UL m128_l0 g128_l0.m:=ul
def g129:Got (cmp 20 (kpL passing [] [[0,1],[0,1],[0,9,10,11],[0,9,10,11],[0,5,9,10,11],[],[0,9,10,11],[]]) (bodyOf Tryz.f129)):=by
 refine⟨?m,?h⟩
 case h=>conv=>lhs;cbv
def m129:M:=g129.m
def fn129:MFn:=⟨20,[.tmp 3],m129,.pass⟩
theorem fnOk129:FnOk Tryz.prog 129 fn129:=fk Tryz.func129 g129.h
def g129_l0:Got ((loopsM m129).getD 0 .bad):=by
 refine⟨?m,?h⟩
 case h=>conv=>lhs;cbv
def m129_l0:M:=g129_l0.m
theorem u129_l0:UL m129_l0 g129_l0.m:=ul
def g130:Got (cmp 7 (kpL passing [] [[0],[0]]) (bodyOf Tryz.f130)):=by
 refine⟨?m,?h⟩
 case h=>conv=>lhs;cbv
def m130:M:=g130.m
def fn130:MFn:=⟨7,[.tmp 1],m130,.pass⟩
theorem fnOk130:FnOk Tryz.prog 130 fn130:=fk Tryz.func130 g130.h
def g131:Got (cmp 34 (kpL passing [] [[0],[0],[0,3,5]]) (bodyOf Tryz.f131)):=by
 refine⟨?m,?h⟩
 case h=>conv=>lhs;cbv
def m131:M:=g131.m
def fn131:MFn:=⟨34,[.tmp 2],m131,.shut⟩
theorem fnOk131:FnOk Tryz.prog 131 fn131:=fk Tryz.func131 g131.h
def g132:Got (cmp 4 (kpL passing [] [[0],[0]]) (bodyOf Tryz.f132)):=by
 refine⟨?m,?h⟩
 case h=>conv=>lhs;cbv
def m132:M:=g132.m
def fn132:MFn:=⟨4,[.tmp 1],m132,.pass⟩
theorem fnOk132:FnOk Tryz.prog 132 fn132:=fk Tryz.func132 g132.h
def g133:Got (cmp 56 (kpL passing [] [[0],[0],[],[0],[0,35,36,37],[0,35,36,37],[0,3,4,35,36,37],[],[0,35,36,37],[]]) (bodyOf Tryz.f133)):=by
 refine⟨?m,?h⟩
 case h=>conv=>lhs;reduce
def m133:M:=g133.m
def fn133:MFn:=⟨56,[.tmp 2],m133,.pass⟩
theorem fnOk133:FnOk Tryz.prog 133 fn133:=fk Tryz.func133 g133.h
def g133_l0:Got ((loopsM m133).getD 0 .bad):=by
 refine⟨?m,?h⟩
 case h=>conv=>lhs;cbv
def m133_l0:M:=g133_l0.m
theorem u133_l0:UL m133_l0 g133_l0.m:=ul
def g134:Got (cmp 21 (kpL passing [] [[0,1],[0,1]]) (bodyOf Tryz.f134)):=by
 refine⟨?m,?h⟩
 case h=>conv=>lhs;cbv
def m134:M:=g134.m
def fn134:MFn:=⟨21,[.tmp 2],m134,.pass⟩
theorem fnOk134:FnOk Tryz.prog 134 fn134:=fk Tryz.func134 g134.h
def g135:Got (cmp 6 (kpL passing [] [[0],[0]]) (bodyOf Tryz.f135)):=by
 refine⟨?m,?h⟩
 case h=>conv=>lhs;cbv
def m135:M:=g135.m
def fn135:MFn:=⟨6,[.tmp 2],m135,.shut⟩
theorem fnOk135:FnOk Tryz.prog 135 fn135:=fk Tryz.func135 g135.h
def g136:Got (cmp 6 (kpL passing [] [[0,1],[0,1]]) (bodyOf Tryz.f136)):=by
 refine⟨?m,?h⟩
 case h=>conv=>lhs;cbv
def m136:M:=g136.m
def fn136:MFn:=⟨6,[.tmp 2],m136,.pass⟩
theorem fnOk136:FnOk Tryz.prog 136 fn136:=fk Tryz.func136 g136.h
def g137:Got (cmp 11 (kpL passing [] [[0,1],[0,1]]) (bodyOf Tryz.f137)):=by
 refine⟨?m,?h⟩
 case h=>conv=>lhs;cbv
def m137:M:=g137.m
def fn137:MFn:=⟨11,[.tmp 3],m137,.pass⟩
theorem fnOk137:FnOk Tryz.prog 137 fn137:=fk Tryz.func137 g137.h
def g138:Got (cmp 43 (kpL passing [] [[0,1],[0,1],[],[0,1],[0,5],[0,5,6],[0,5,6,17,18,19],[0,5,6,17,18,19],[0,5,6,7,8,17,18,19],[0,5,6,17,18,19],[0,5,6,17,18,19,32,33,34],[0,5,6,17,18,19,32,33,34],[0,5,6,10,17,18,19,32,33,34],[],[0,5,6,17,18,19,32,33,34],[0,5,6,17,18,19],[]]) (bodyOf Tryz.f138)):=by
 refine⟨?m,?h⟩
 case h=>conv=>lhs;cbv
def m138:M:=g138.m
def fn138:MFn:=⟨43,[.tmp 4],m138,.shut⟩
theorem fnOk138:FnOk Tryz.prog 138 fn138:=fk Tryz.func138 g138.h
def g138_l0:Got ((loopsM m138).getD 0 .bad):=by
 refine⟨?m,?h⟩
 case h=>conv=>lhs;cbv
def m138_l0:M:=g138_l0.m
theorem u138_l0:UL m138_l0 g138_l0.m:=ul
def g138_l1:Got ((loopsM m138).getD 1 .bad):=by
 refine⟨?m,?h⟩
 case h=>conv=>lhs;cbv
def m138_l1:M:=g138_l1.m
theorem u138_l1:UL m138_l1 g138_l1.m:=ul
def g139:Got (cmp 21 (kpL passing [] [[0],[0]]) (bodyOf Tryz.f139)):=by
 refine⟨?m,?h⟩
 case h=>conv=>lhs;cbv
def m139:M:=g139.m
def fn139:MFn:=⟨21,[.tmp 1],m139,.pass⟩
theorem fnOk139:FnOk Tryz.prog 139 fn139:=fk Tryz.func139 g139.h
def g140:Got (cmp 17 (kpL passing [] [[0],[0]]) (bodyOf Tryz.f140)):=by
 refine⟨?m,?h⟩
 case h=>conv=>lhs;reduce
def m140:M:=g140.m
def fn140:MFn:=⟨17,[.tmp 1],m140,.pass⟩
theorem fnOk140:FnOk Tryz.prog 140 fn140:=fk Tryz.func140 g140.h
def g141:Got (cmp 10 (kpL passing [] [[0,1,2],[1,2,3]]) (bodyOf Tryz.f141)):=by
 refine⟨?m,?h⟩
 case h=>conv=>lhs;cbv
def m141:M:=g141.m
def fn141:MFn:=⟨10,[.tmp 6],m141,.shut⟩
theorem fnOk141:FnOk Tryz.prog 141 fn141:=fk Tryz.func141 g141.h
def g142:Got (cmp 36 (kpL passing [] [[0],[0,6],[0,6],[0,2,6],[0,2,6,9],[0,2,6,9],[0,2,3,6,9],[0,2,6,9],[0,6],[0],[0,21],[0,21],[0,4,21],[0,4,21,24],[0,4,21,24],[0,4,5,21,24],[0,4,21,24],[0,21]]) (bodyOf Tryz.f142)):=by
 refine⟨?m,?h⟩
 case h=>conv=>lhs;cbv
def m142:M:=g142.m
def fn142:MFn:=⟨36,[],m142,.pass⟩
theorem fnOk142:FnOk Tryz.prog 142 fn142:=fk Tryz.func142 g142.h
def g142_l0:Got ((loopsM m142).getD 0 .bad):=by
 refine⟨?m,?h⟩
 case h=>conv=>lhs;cbv
def m142_l0:M:=g142_l0.m
theorem u142_l0:UL m142_l0 g142_l0.m:=ul
def g142_l1:Got ((loopsM m142).getD 1 .bad):=by
 refine⟨?m,?h⟩
 case h=>conv=>lhs;cbv
def m142_l1:M:=g142_l1.m
theorem u142_l1:UL m142_l1 g142_l1.m:=ul
def g142_l2:Got ((loopsM m142).getD 2 .bad):=by
 refine⟨?m,?h⟩
 case h=>conv=>lhs;cbv
def m142_l2:M:=g142_l2.m
theorem u142_l2:UL m142_l2 g142_l2.m:=ul
def g142_l3:Got ((loopsM m142).getD 3 .bad):=by
 refine⟨?m,?h⟩
 case h=>conv=>lhs;cbv
def m142_l3:M:=g142_l3.m
theorem u142_l3:UL m142_l3 g142_l3.m:=ul
def g143:Got (cmp 2 (kpL passing [] [[],[0]]) (bodyOf Tryz.f143)):=by
 refine⟨?m,?h⟩
 case h=>conv=>lhs;cbv
def m143:M:=g143.m
def fn143:MFn:=⟨2,[.cell 0 179],m143,.shut⟩
theorem fnOk143:FnOk Tryz.prog 143 fn143:=fk Tryz.func143 g143.h
def g144:Got (cmp 2 (kpL passing [] [[],[0]]) (bodyOf Tryz.f144)):=by
 refine⟨?m,?h⟩
 case h=>conv=>lhs;cbv
def m144:M:=g144.m
def fn144:MFn:=⟨2,[.cell 0 179],m144,.shut⟩
theorem fnOk144:FnOk Tryz.prog 144 fn144:=fk Tryz.func144 g144.h
def g147:Got (cmp 8 (kpL passing [] [[0,1],[0,1,4]]) (bodyOf Tryz.f147)):=by
 refine⟨?m,?h⟩
 case h=>conv=>lhs;cbv
def m147:M:=g147.m
def fn147:MFn:=⟨8,[.cell 4 118],m147,.shut⟩
theorem fnOk147:FnOk Tryz.prog 147 fn147:=fk Tryz.func147 g147.h
def g148:Got (cmp 20 (kpL passing [] [[0,1,2],[0,1,2,4],[0,1,2,4],[0,1,2,4]]) (bodyOf Tryz.f148)):=by
 refine⟨?m,?h⟩
 case h=>conv=>lhs;reduce
def m148:M:=g148.m
def fn148:MFn:=⟨20,[],m148,.pass⟩
theorem fnOk148:FnOk Tryz.prog 148 fn148:=fk Tryz.func148 g148.h
def g148_l0:Got ((loopsM m148).getD 0 .bad):=by
 refine⟨?m,?h⟩
 case h=>conv=>lhs;cbv
def m148_l0:M:=g148_l0.m
theorem u148_l0:UL m148_l0 g148_l0.m:=ul
def g149:Got (cmp 13 (kpL passing [] [[0],[0]]) (bodyOf Tryz.f149)):=by
 refine⟨?m,?h⟩
 case h=>conv=>lhs;cbv
def m149:M:=g149.m
def fn149:MFn:=⟨13,[.tmp 2],m149,.shut⟩
theorem fnOk149:FnOk Tryz.prog 149 fn149:=fk Tryz.func149 g149.h
def g150:Got (cmp 9 (kpL passing [] [[0],[0]]) (bodyOf Tryz.f150)):=by
 refine⟨?m,?h⟩
 case h=>conv=>lhs;cbv
def m150:M:=g150.m
def fn150:MFn:=⟨9,[.tmp 2],m150,.shut⟩
theorem fnOk150:FnOk Tryz.prog 150 fn150:=fk Tryz.func150 g150.h
def g154:Got (cmp 9 (kpL passing [] [[0],[0],[],[0]]) (bodyOf Tryz.f154)):=by
 refine⟨?m,?h⟩
 case h=>conv=>lhs;cbv
def m154:M:=g154.m
def fn154:MFn:=⟨9,[.tmp 2],m154,.shut⟩
theorem fnOk154:FnOk Tryz.prog 154 fn154:=fk Tryz.func154 g154.h
def g161:Got (cmp 22 (kpL passing [] [[0,1,2,3,4]]) (bodyOf Tryz.f161)):=by
 refine⟨?m,?h⟩
 case h=>conv=>lhs;reduce
def m161:M:=g161.m
def fn161:MFn:=⟨22,[],m161,.pass⟩
theorem fnOk161:FnOk Tryz.prog 161 fn161:=fk Tryz.func161 g161.h
def g162:Got (cmp 33 (kpL passing [] [[0,1,2],[0,1,2],[0,1,2],[0,1,2],[0,2],[0,2],[0,2]]) (bodyOf Tryz.f162)):=by
 refine⟨?m,?h⟩
 case h=>conv=>lhs;cbv
def m162:M:=g162.m
def fn162:MFn:=⟨33,[],m162,.pass⟩
theorem fnOk162:FnOk Tryz.prog 162 fn162:=fk Tryz.func162 g162.h
def g163:Got (cmp 17 (kpL passing [] [[0,1],[0,1,4],[0,1,4],[0,1,4]]) (bodyOf Tryz.f163)):=by
 refine⟨?m,?h⟩
 case h=>conv=>lhs;cbv
def m163:M:=g163.m
def fn163:MFn:=⟨17,[],m163,.pass⟩
theorem fnOk163:FnOk Tryz.prog 163 fn163:=fk Tryz.func163 g163.h
def g163_l0:Got ((loopsM m163).getD 0 .bad):=by
 refine⟨?m,?h⟩
 case h=>conv=>lhs;cbv
def m163_l0:M:=g163_l0.m
theorem u163_l0:UL m163_l0 g163_l0.m:=ul
def g164:Got (cmp 22 (kpL passing [] [[0,1,2,3,4]]) (bodyOf Tryz.f164)):=by
 refine⟨?m,?h⟩
 case h=>conv=>lhs;reduce
def m164:M:=g164.m
def fn164:MFn:=⟨22,[],m164,.pass⟩
theorem fnOk164:FnOk Tryz.prog 164 fn164:=fk Tryz.func164 g164.h
def g165:Got (cmp 13 (kpL passing [] [[0,1,2],[0,1,2],[0],[]]) (bodyOf Tryz.f165)):=by
 refine⟨?m,?h⟩
 case h=>conv=>lhs;cbv
def m165:M:=g165.m
def fn165:MFn:=⟨13,[.tmp 5],m165,.pass⟩
theorem fnOk165:FnOk Tryz.prog 165 fn165:=fk Tryz.func165 g165.h
def g166:Got (cmp 26 (kpL passing [] [[0,1],[0,1],[0,1,6],[0,1,6],[0,1,6],[0,6],[]]) (bodyOf Tryz.f166)):=by
 refine⟨?m,?h⟩
 case h=>conv=>lhs;cbv
def m166:M:=g166.m
def fn166:MFn:=⟨26,[.tmp 4,.tmp 5],m166,.shut⟩
theorem fnOk166:FnOk Tryz.prog 166 fn166:=fk Tryz.func166 g166.h
def g166_l0:Got ((loopsM m166).getD 0 .bad):=by
 refine⟨?m,?h⟩
 case h=>conv=>lhs;cbv
def m166_l0:M:=g166_l0.m
theorem u166_l0:UL m166_l0 g166_l0.m:=ul
def g167:Got (cmp 15 (kpL passing [] [[0],[1,2],[1,2,3],[1,2,3],[1,2]]) (bodyOf Tryz.f167)):=by
 refine⟨?m,?h⟩
 case h=>conv=>lhs;cbv
def m167:M:=g167.m
def fn167:MFn:=⟨15,[.cell 2 99],m167,.pass⟩
theorem fnOk167:FnOk Tryz.prog 167 fn167:=fk Tryz.func167 g167.h
def g168:Got (cmp 31 (kpL passing [] [[0],[0],[]]) (bodyOf Tryz.f168)):=by
 refine⟨?m,?h⟩
 case h=>conv=>lhs;reduce
def m168:M:=g168.m
def fn168:MFn:=⟨31,[.tmp 2],m168,.pass⟩
theorem fnOk168:FnOk Tryz.prog 168 fn168:=fk Tryz.func168 g168.h
def g169:Got (cmp 36 (kpL passing [] [[0],[0],[0],[]]) (bodyOf Tryz.f169)):=by
 refine⟨?m,?h⟩
 case h=>conv=>lhs;reduce
def m169:M:=g169.m
def fn169:MFn:=⟨36,[.tmp 2],m169,.pass⟩
theorem fnOk169:FnOk Tryz.prog 169 fn169:=fk Tryz.func169 g169.h
def g170:Got (cmp 3 (kpL passing [] [[],[]]) (bodyOf Tryz.f170)):=by
 refine⟨?m,?h⟩
 case h=>conv=>lhs;cbv
def m170:M:=g170.m
def fn170:MFn:=⟨3,[.tmp 2],m170,.pass⟩
theorem fnOk170:FnOk Tryz.prog 170 fn170:=fk Tryz.func170 g170.h
def g171:Got (cmp 30 (kpL passing [] [[0],[0],[]]) (bodyOf Tryz.f171)):=by
 refine⟨?m,?h⟩
 case h=>conv=>lhs;reduce
def m171:M:=g171.m
def fn171:MFn:=⟨30,[.tmp 2],m171,.pass⟩
theorem fnOk171:FnOk Tryz.prog 171 fn171:=fk Tryz.func171 g171.h
def g172:Got (cmp 23 (kpL passing [] [[0],[0],[0,3,4],[0,3],[]]) (bodyOf Tryz.f172)):=by
 refine⟨?m,?h⟩
 case h=>conv=>lhs;reduce
def m172:M:=g172.m
def fn172:MFn:=⟨23,[.tmp 2],m172,.pass⟩
theorem fnOk172:FnOk Tryz.prog 172 fn172:=fk Tryz.func172 g172.h
def g173:Got (cmp 23 (kpL passing [] [[0,1]]) (bodyOf Tryz.f173)):=by
 refine⟨?m,?h⟩
 case h=>conv=>lhs;reduce
def m173:M:=g173.m
def fn173:MFn:=⟨23,[],m173,.pass⟩
theorem fnOk173:FnOk Tryz.prog 173 fn173:=fk Tryz.func173 g173.h
def g174:Got (cmp 27 (kpL passing [] [[0,1],[2,3,4],[2,4],[2,3,4,7],[2,3,4,7],[2,3,4,7],[2,3,4,7],[2,3,4,7],[2,3,4],[2,4],[2,3,4],[2,4],[2,3,4],[2,4]]) (bodyOf Tryz.f174)):=by
 refine⟨?m,?h⟩
 case h=>conv=>lhs;cbv
def m174:M:=g174.m
def fn174:MFn:=⟨27,[.cell 4 123,.tmp 5],m174,.shut⟩
theorem fnOk174:FnOk Tryz.prog 174 fn174:=fk Tryz.func174 g174.h
def g175:Got (cmp 20 (kpL passing [] [[0,1,2,3]]) (bodyOf Tryz.f175)):=by
 refine⟨?m,?h⟩
 case h=>conv=>lhs;reduce
def m175:M:=g175.m
def fn175:MFn:=⟨20,[],m175,.pass⟩
theorem fnOk175:FnOk Tryz.prog 175 fn175:=fk Tryz.func175 g175.h
def g176:Got (cmp 18 (kpL passing [] [[0,1],[2,3],[3],[2,3],[2,3],[]]) (bodyOf Tryz.f176)):=by
 refine⟨?m,?h⟩
 case h=>conv=>lhs;cbv
def m176:M:=g176.m
def fn176:MFn:=⟨18,[.tmp 4],m176,.shut⟩
theorem fnOk176:FnOk Tryz.prog 176 fn176:=fk Tryz.func176 g176.h
def g177:Got (cmp 12 (kpL passing [] [[0,1],[1,2]]) (bodyOf Tryz.f177)):=by
 refine⟨?m,?h⟩
 case h=>conv=>lhs;cbv
def m177:M:=g177.m
def fn177:MFn:=⟨12,[.tmp 4],m177,.shut⟩
theorem fnOk177:FnOk Tryz.prog 177 fn177:=fk Tryz.func177 g177.h
def g178:Got (cmp 17 (kpL passing [] [[0,1],[1,2],[1,5,6],[],[1,5]]) (bodyOf Tryz.f178)):=by
 refine⟨?m,?h⟩
 case h=>conv=>lhs;cbv
def m178:M:=g178.m
def fn178:MFn:=⟨17,[.tmp 4],m178,.shut⟩
theorem fnOk178:FnOk Tryz.prog 178 fn178:=fk Tryz.func178 g178.h
def g179:Got (cmp 23 (kpL passing [] [[0,1,2],[2,3,4,6],[2,6,8,9],[2,6,8,9],[6,8,9]]) (bodyOf Tryz.f179)):=by
 refine⟨?m,?h⟩
 case h=>conv=>lhs;cbv
def m179:M:=g179.m
def fn179:MFn:=⟨23,[.cell 6 114,.tmp 7],m179,.shut⟩
theorem fnOk179:FnOk Tryz.prog 179 fn179:=fk Tryz.func179 g179.h
def g180:Got (cmp 36 (kpL passing [] [[0,1,2],[0,1,2,6],[6],[0,1,2,6],[6,8],[6,8,25],[6,8],[6,25],[6],[6,25],[6],[6]]) (bodyOf Tryz.f180)):=by
 refine⟨?m,?h⟩
 case h=>conv=>lhs;cbv
def m180:M:=g180.m
def fn180:MFn:=⟨36,[.cell 6 36,.tmp 7],m180,.pass⟩
theorem fnOk180:FnOk Tryz.prog 180 fn180:=fk Tryz.func180 g180.h
def g181:Got (cmp 21 (kpL passing [] [[0,1,2],[2,3,4],[],[2,3,4],[2,4,8]]) (bodyOf Tryz.f181)):=by
 refine⟨?m,?h⟩
 case h=>conv=>lhs;reduce
def m181:M:=g181.m
def fn181:MFn:=⟨21,[.tmp 6,.tmp 7],m181,.shut⟩
theorem fnOk181:FnOk Tryz.prog 181 fn181:=fk Tryz.func181 g181.h
def g182:Got (cmp 14 (kpL passing [] [[0,1],[1,2],[5]]) (bodyOf Tryz.f182)):=by
 refine⟨?m,?h⟩
 case h=>conv=>lhs;cbv
def m182:M:=g182.m
def fn182:MFn:=⟨14,[.tmp 3],m182,.pass⟩
theorem fnOk182:FnOk Tryz.prog 182 fn182:=fk Tryz.func182 g182.h
def g183:Got (cmp 65 (kpL passing [7,12] [[0,1,2,3],[2,4,5,7,8,9],[8],[2,4,5,7,8,9],[2,5,7,8,9,10],[5,7,8,9,10,11,12],[7,12,33,34],[7,12,13,34],[7,12,13,14],[12,13],[5,8,11,12],[5,8,11,15,16],[8],[5,8,11,15]]) (bodyOf Tryz.f183)):=by
 refine⟨?m,?h⟩
 case h=>conv=>lhs;reduce
def m183:M:=g183.m
def fn183:MFn:=⟨65,[.cell 8 114,.tmp 9],m183,.pass⟩
theorem fnOk183:FnOk Tryz.prog 183 fn183:=fk Tryz.func183 g183.h
def g183_l0:Got ((loopsM m183).getD 0 .bad):=by
 refine⟨?m,?h⟩
 case h=>conv=>lhs;cbv
def m183_l0:M:=g183_l0.m
theorem u183_l0:UL m183_l0 g183_l0.m:=ul
def g183_l1:Got ((loopsM m183).getD 1 .bad):=by
 refine⟨?m,?h⟩
 case h=>conv=>lhs;cbv
def m183_l1:M:=g183_l1.m
theorem u183_l1:UL m183_l1 g183_l1.m:=ul
def g184:Got (cmp 71 (kpL passing [] [[0,1],[0,1,4],[0,1,4,8],[1,4,8,9,10],[4,8,10],[1,4,8,9],[1,4,8,9,36,37],[1,4,8,9,36,37],[1,4,8,9,11,12,36,37],[1,4,8,9,12,36,37],[1,4,8,9,36,37],[1,4,8,9],[1,4,8,13],[4,8,13],[1,4]]) (bodyOf Tryz.f184)):=by
 refine⟨?m,?h⟩
 case h=>conv=>lhs;reduce
def m184:M:=g184.m
def fn184:MFn:=⟨71,[.cell 4 123,.tmp 5,.tmp 6,.tmp 7],m184,.pass⟩
theorem fnOk184:FnOk Tryz.prog 184 fn184:=fk Tryz.func184 g184.h
def g184_l0:Got ((loopsM m184).getD 0 .bad):=by
 refine⟨?m,?h⟩
 case h=>conv=>lhs;cbv
def m184_l0:M:=g184_l0.m
theorem u184_l0:UL m184_l0 g184_l0.m:=ul
def g185:Got (cmp 18 (kpL passing [] [[0,1,2,3,4],[1,4,5,7,8]]) (bodyOf Tryz.f185)):=by
 refine⟨?m,?h⟩
 case h=>conv=>lhs;cbv
def m185:M:=g185.m
def fn185:MFn:=⟨18,[.tmp 10],m185,.pass⟩
theorem fnOk185:FnOk Tryz.prog 185 fn185:=fk Tryz.func185 g185.h
def g186:Got (cmp 62 (kpL passing [] [[0,1,2,3,4],[1,2,3,4],[1,2,4],[1,2,4,26,27,28],[1,2,4,26,27,28],[1,2,4,6,26,27,28],[1,2,4,26,27,28],[1,4]]) (bodyOf Tryz.f186)):=by
 refine⟨?m,?h⟩
 case h=>conv=>lhs;reduce
def m186:M:=g186.m
def fn186:MFn:=⟨62,[],m186,.pass⟩
theorem fnOk186:FnOk Tryz.prog 186 fn186:=fk Tryz.func186 g186.h
def g186_l0:Got ((loopsM m186).getD 0 .bad):=by
 refine⟨?m,?h⟩
 case h=>conv=>lhs;cbv
def m186_l0:M:=g186_l0.m
theorem u186_l0:UL m186_l0 g186_l0.m:=ul
def g187:Got (cmp 71 (kpL passing [] [[0,1,2],[0,4,5,6],[0,5,6,7],[6,7],[6,7,8],[6,7,8],[6,7,8],[6,7],[0,5,6,7],[0,5,6,7],[0,5,6,7],[5,6,7],[5,6,7],[6,7],[6,7],[6,7]]) (bodyOf Tryz.f187)):=by
 refine⟨?m,?h⟩
 case h=>conv=>lhs;reduce
def m187:M:=g187.m
def fn187:MFn:=⟨71,[.cell 6 99],m187,.norm⟩
theorem fnOk187:FnOk Tryz.prog 187 fn187:=fk Tryz.func187 g187.h
def g188:Got (cmp 29 (kpL passing [] [[0,1,2],[2,3,4],[],[2,3,4],[2,4,9],[2,4,6,9],[6,7,8]]) (bodyOf Tryz.f188)):=by
 refine⟨?m,?h⟩
 case h=>conv=>lhs;reduce
def m188:M:=g188.m
def fn188:MFn:=⟨29,[.tmp 6,.tmp 7,.tmp 8],m188,.shut⟩
theorem fnOk188:FnOk Tryz.prog 188 fn188:=fk Tryz.func188 g188.h
def g189:Got (cmp 36 (kpL passing [] [[0],[0],[0,3],[0,3,9,10,11],[0,3,9,10,11],[0,3,5,9,10,11],[0,3,9,10,11],[0,3,9,10,11],[0,3,9,10,11],[0,3],[0,6],[6,25,26,27],[6,25,26,27],[6,8,25,26,27],[6,25,26,27],[6]]) (bodyOf Tryz.f189)):=by
 refine⟨?m,?h⟩
 case h=>conv=>lhs;cbv
def m189:M:=g189.m
def fn189:MFn:=⟨36,[.tmp 2],m189,.pass⟩
theorem fnOk189:FnOk Tryz.prog 189 fn189:=fk Tryz.func189 g189.h
def g189_l0:Got ((loopsM m189).getD 0 .bad):=by
 refine⟨?m,?h⟩
 case h=>conv=>lhs;cbv
def m189_l0:M:=g189_l0.m
theorem u189_l0:UL m189_l0 g189_l0.m:=ul
def g189_l1:Got ((loopsM m189).getD 1 .bad):=by
 refine⟨?m,?h⟩
 case h=>conv=>lhs;cbv
def m189_l1:M:=g189_l1.m
theorem u189_l1:UL m189_l1 g189_l1.m:=ul
def g190:Got (cmp 8 (kpL passing [] [[0,1,2],[4,5]]) (bodyOf Tryz.f190)):=by
 refine⟨?m,?h⟩
 case h=>conv=>lhs;cbv
def m190:M:=g190.m
def fn190:MFn:=⟨8,[.tmp 6],m190,.pass⟩
theorem fnOk190:FnOk Tryz.prog 190 fn190:=fk Tryz.func190 g190.h
def g191:Got (cmp 52 (kpL passing [] [[0,1],[2,3,4],[2,3,4,8],[2,4],[2,3,4,8],[2,4],[2,3,4,8],[2,4],[2,3,4,8],[2,4],[2,3,4,8],[2,3,4,8],[2,3,4],[2,3,4],[2,3,4],[2,4,8],[2,4],[2,4],[2,4],[2,4],[2,4]]) (bodyOf Tryz.f191)):=by
 refine⟨?m,?h⟩
 case h=>conv=>lhs;reduce
def m191:M:=g191.m
def fn191:MFn:=⟨52,[.cell 4 114,.tmp 5,.tmp 6],m191,.shut⟩
theorem fnOk191:FnOk Tryz.prog 191 fn191:=fk Tryz.func191 g191.h
def g192:Got (cmp 32 (kpL passing [] [[0,1,2],[1,3,5]]) (bodyOf Tryz.f192)):=by
 refine⟨?m,?h⟩
 case h=>conv=>lhs;cbv
def m192:M:=g192.m
def fn192:MFn:=⟨32,[.tmp 6],m192,.shut⟩
theorem fnOk192:FnOk Tryz.prog 192 fn192:=fk Tryz.func192 g192.h
def g193:Got (cmp 45 (kpL passing [] [[0,1],[2,3,4],[2,3,4,7],[2,3,4,7],[4,7],[2,4],[2,3,4,7],[4,7],[2,3,4],[2,3,4],[2,4],[2,4],[2,4]]) (bodyOf Tryz.f193)):=by
 refine⟨?m,?h⟩
 case h=>conv=>lhs;cbv
def m193:M:=g193.m
def fn193:MFn:=⟨45,[.cell 4 54,.tmp 5,.tmp 6],m193,.shut⟩
theorem fnOk193:FnOk Tryz.prog 193 fn193:=fk Tryz.func193 g193.h
def g194:Got (cmp 22 (kpL passing [] [[0,1],[2,3],[3,6],[6,13],[],[6,13],[6],[],[],[6,13],[6],[],[],[]]) (bodyOf Tryz.f194)):=by
 refine⟨?m,?h⟩
 case h=>conv=>lhs;cbv
def m194:M:=g194.m
def fn194:MFn:=⟨22,[.tmp 4,.tmp 5],m194,.shut⟩
theorem fnOk194:FnOk Tryz.prog 194 fn194:=fk Tryz.func194 g194.h
def g195:Got (cmp 6 (kpL passing [] [[0],[1]]) (bodyOf Tryz.f195)):=by
 refine⟨?m,?h⟩
 case h=>conv=>lhs;cbv
def m195:M:=g195.m
def fn195:MFn:=⟨6,[.tmp 2],m195,.shut⟩
theorem fnOk195:FnOk Tryz.prog 195 fn195:=fk Tryz.func195 g195.h
def g196:Got (cmp 10 (kpL passing [] [[0],[0],[3],[],[3],[],[3],[],[]]) (bodyOf Tryz.f196)):=by
 refine⟨?m,?h⟩
 case h=>conv=>lhs;cbv
def m196:M:=g196.m
def fn196:MFn:=⟨10,[.tmp 2],m196,.shut⟩
theorem fnOk196:FnOk Tryz.prog 196 fn196:=fk Tryz.func196 g196.h
def g197:Got (cmp 22 (kpL passing [] [[0,1],[0,1,4],[0,1,8,9],[0,1,8,9],[0,1,5,6,8,9],[0,1,6,8,9],[0,1,8,9]]) (bodyOf Tryz.f197)):=by
 refine⟨?m,?h⟩
 case h=>conv=>lhs;cbv
def m197:M:=g197.m
def fn197:MFn:=⟨22,[],m197,.pass⟩
theorem fnOk197:FnOk Tryz.prog 197 fn197:=fk Tryz.func197 g197.h
def g197_l0:Got ((loopsM m197).getD 0 .bad):=by
 refine⟨?m,?h⟩
 case h=>conv=>lhs;cbv
def m197_l0:M:=g197_l0.m
theorem u197_l0:UL m197_l0 g197_l0.m:=ul
def g198:Got (cmp 40 (kpL passing [] [[0,1,2],[0,1,2,4],[0,2,4,9,10,11],[0,2,4,9,10,11],[0,2,4,5,6,9,10,11],[0,2,4,5,7,9,10,11],[0,2,4,5,7,9,10,11],[0,2,4,9,10,11]]) (bodyOf Tryz.f198)):=by
 refine⟨?m,?h⟩
 case h=>conv=>lhs;reduce
def m198:M:=g198.m
def fn198:MFn:=⟨40,[],m198,.pass⟩
theorem fnOk198:FnOk Tryz.prog 198 fn198:=fk Tryz.func198 g198.h
def g198_l0:Got ((loopsM m198).getD 0 .bad):=by
 refine⟨?m,?h⟩
 case h=>conv=>lhs;cbv
def m198_l0:M:=g198_l0.m
theorem u198_l0:UL m198_l0 g198_l0.m:=ul
def g199:Got (cmp 20 (kpL passing [] [[0,1],[1,2,4],[2,4],[2,4]]) (bodyOf Tryz.f199)):=by
 refine⟨?m,?h⟩
 case h=>conv=>lhs;reduce
def m199:M:=g199.m
def fn199:MFn:=⟨20,[.cell 4 163],m199,.shut⟩
theorem fnOk199:FnOk Tryz.prog 199 fn199:=fk Tryz.func199 g199.h
def g200:Got (cmp 27 (kpL passing [2,3,4] [[0],[0,2,3,4],[2,3,4],[0,2,3,4],[2,3,4,5],[2,3,4,15,16],[2,3,4,6,16],[2,3,4,6,7],[2,3,4,6,7],[2,6],[2,3,4]]) (bodyOf Tryz.f200)):=by
 refine⟨?m,?h⟩
 case h=>conv=>lhs;reduce
def m200:M:=g200.m
def fn200:MFn:=⟨27,[.cell 2 320,.cell 3 3,.cell 4 69],m200,.shut⟩
theorem fnOk200:FnOk Tryz.prog 200 fn200:=fk Tryz.func200 g200.h
def g200_l0:Got ((loopsM m200).getD 0 .bad):=by
 refine⟨?m,?h⟩
 case h=>conv=>lhs;cbv
def m200_l0:M:=g200_l0.m
theorem u200_l0:UL m200_l0 g200_l0.m:=ul
def g200_l1:Got ((loopsM m200).getD 1 .bad):=by
 refine⟨?m,?h⟩
 case h=>conv=>lhs;cbv
def m200_l1:M:=g200_l1.m
theorem u200_l1:UL m200_l1 g200_l1.m:=ul
def g201:Got (cmp 55 (kpL passing [] [[0],[0],[],[0],[0,3],[0,3,4],[0,3,4],[0,3,4],[],[0,3,4],[0,3,4],[0,3]]) (bodyOf Tryz.f201)):=by
 refine⟨?m,?h⟩
 case h=>conv=>lhs;cbv
def m201:M:=g201.m
def fn201:MFn:=⟨55,[.tmp 2],m201,.shut⟩
theorem fnOk201:FnOk Tryz.prog 201 fn201:=fk Tryz.func201 g201.h
def g201_l0:Got ((loopsM m201).getD 0 .bad):=by
 refine⟨?m,?h⟩
 case h=>conv=>lhs;cbv
def m201_l0:M:=g201_l0.m
theorem u201_l0:UL m201_l0 g201_l0.m:=ul
def g202:Got (cmp 9 (kpL passing [] [[0,1],[0,1]]) (bodyOf Tryz.f202)):=by
 refine⟨?m,?h⟩
 case h=>conv=>lhs;cbv
def m202:M:=g202.m
def fn202:MFn:=⟨9,[.tmp 4],m202,.shut⟩
theorem fnOk202:FnOk Tryz.prog 202 fn202:=fk Tryz.func202 g202.h
def g203:Got (cmp 14 (kpL passing [] [[0],[1]]) (bodyOf Tryz.f203)):=by
 refine⟨?m,?h⟩
 case h=>conv=>lhs;cbv
def m203:M:=g203.m
def fn203:MFn:=⟨14,[.tmp 2],m203,.pass⟩
theorem fnOk203:FnOk Tryz.prog 203 fn203:=fk Tryz.func203 g203.h
def g204:Got (cmp 141 (kpL passing [] [[0,1,2,3],[0,1,2,3],[],[0,1,2,3],[0,1,2,3,9],[],[0,1,2,3,9,35],[0,9],[0,1,2,3,9,35],[0,1],[0,1,2,3,9,35],[0,2],[0,1,2,3,9,35],[0,1,2,3,9,35],[0,1,2,3,9],[],[0,1,2,3,9,35],[0,1,2,3,9],[],[0,1,2,3],[0,1,2,3,124,125],[0,1,2,3,124,125],[0,1,2,3,10,124,125],[],[0,1,2,3,124,125],[]]) (bodyOf Tryz.f204)):=by
 refine⟨?m,?h⟩
 case h=>conv=>lhs;cbv
def m204:M:=g204.m
def fn204:MFn:=⟨141,[.tmp 8],m204,.pass⟩
theorem fnOk204:FnOk Tryz.prog 204 fn204:=fk Tryz.func204 g204.h
def g204_l0:Got ((loopsM m204).getD 0 .bad):=by
 refine⟨?m,?h⟩
 case h=>conv=>lhs;cbv
def m204_l0:M:=g204_l0.m
theorem u204_l0:UL m204_l0 g204_l0.m:=ul
def g205:Got (cmp 43 (kpL passing [] [[0,1],[0,1,4],[0,1,4,6],[4],[0,1,4],[0,1,4,7],[4,7],[1,4,7],[4,7,32,33],[4,7,32,33],[4,7,8,32,33],[4,7,32,33],[4,7]]) (bodyOf Tryz.f205)):=by
 refine⟨?m,?h⟩
 case h=>conv=>lhs;cbv
def m205:M:=g205.m
def fn205:MFn:=⟨43,[.cell 4 118],m205,.shut⟩
theorem fnOk205:FnOk Tryz.prog 205 fn205:=fk Tryz.func205 g205.h
def g205_l0:Got ((loopsM m205).getD 0 .bad):=by
 refine⟨?m,?h⟩
 case h=>conv=>lhs;cbv
def m205_l0:M:=g205_l0.m
theorem u205_l0:UL m205_l0 g205_l0.m:=ul
def g217:Got (cmp 19 (kpL passing [] [[0],[0],[0,3],[0,3,4],[0,3,4],[0,3,4],[3]]) (bodyOf Tryz.f217)):=by
 refine⟨?m,?h⟩
 case h=>conv=>lhs;cbv
def m217:M:=g217.m
def fn217:MFn:=⟨19,[.tmp 2],m217,.shut⟩
theorem fnOk217:FnOk Tryz.prog 217 fn217:=fk Tryz.func217 g217.h
def g217_l0:Got ((loopsM m217).getD 0 .bad):=by
 refine⟨?m,?h⟩
 case h=>conv=>lhs;cbv
def m217_l0:M:=g217_l0.m
theorem u217_l0:UL m217_l0 g217_l0.m:=ul
def g218:Got (cmp 21 (kpL passing [] [[0,1],[0,1]]) (bodyOf Tryz.f218)):=by
 refine⟨?m,?h⟩
 case h=>conv=>lhs;reduce
def m218:M:=g218.m
def fn218:MFn:=⟨21,[],m218,.pass⟩
theorem fnOk218:FnOk Tryz.prog 218 fn218:=fk Tryz.func218 g218.h
def g219:Got (cmp 23 (kpL passing [] [[0,1,2],[0,1,2],[1,2,7],[1,2],[1,2,7],[1,2],[1,2,7],[1,2],[]]) (bodyOf Tryz.f219)):=by
 refine⟨?m,?h⟩
 case h=>conv=>lhs;cbv
def m219:M:=g219.m
def fn219:MFn:=⟨23,[.tmp 6],m219,.shut⟩
theorem fnOk219:FnOk Tryz.prog 219 fn219:=fk Tryz.func219 g219.h
def g220:Got (cmp 23 (kpL passing [] [[0,1,2],[0,1,2],[1,2,7],[1,2],[1,2,7],[1,2],[1,2,7],[1,2],[]]) (bodyOf Tryz.f220)):=by
 refine⟨?m,?h⟩
 case h=>conv=>lhs;cbv
def m220:M:=g220.m
def fn220:MFn:=⟨23,[.tmp 6],m220,.shut⟩
theorem fnOk220:FnOk Tryz.prog 220 fn220:=fk Tryz.func220 g220.h
def g221:Got (cmp 22 (kpL passing [7,8,9] [[0,1,2,3],[1,2,4,7,8,9],[7,8,9,16,17],[7,8,9,10,17],[7,8,9,10,11],[8,9,10],[8,9]]) (bodyOf Tryz.f221)):=by
 refine⟨?m,?h⟩
 case h=>conv=>lhs;reduce
def m221:M:=g221.m
def fn221:MFn:=⟨22,[.cell 8 3,.cell 9 4],m221,.pass⟩
theorem fnOk221:FnOk Tryz.prog 221 fn221:=fk Tryz.func221 g221.h
def g221_l0:Got ((loopsM m221).getD 0 .bad):=by
 refine⟨?m,?h⟩
 case h=>conv=>lhs;cbv
def m221_l0:M:=g221_l0.m
theorem u221_l0:UL m221_l0 g221_l0.m:=ul
def g221_l1:Got ((loopsM m221).getD 1 .bad):=by
 refine⟨?m,?h⟩
 case h=>conv=>lhs;cbv
def m221_l1:M:=g221_l1.m
theorem u221_l1:UL m221_l1 g221_l1.m:=ul
def g222:Got (cmp 10 (kpL passing [] [[0,1],[1,2]]) (bodyOf Tryz.f222)):=by
 refine⟨?m,?h⟩
 case h=>conv=>lhs;cbv
def m222:M:=g222.m
def fn222:MFn:=⟨10,[.tmp 4],m222,.shut⟩
theorem fnOk222:FnOk Tryz.prog 222 fn222:=fk Tryz.func222 g222.h
def g223:Got (cmp 6 (kpL passing [] [[0],[1]]) (bodyOf Tryz.f223)):=by
 refine⟨?m,?h⟩
 case h=>conv=>lhs;cbv
def m223:M:=g223.m
def fn223:MFn:=⟨6,[.tmp 2],m223,.shut⟩
theorem fnOk223:FnOk Tryz.prog 223 fn223:=fk Tryz.func223 g223.h
def g224:Got (cmp 8 (kpL passing [] [[0,1,2],[3,4,5]]) (bodyOf Tryz.f224)):=by
 refine⟨?m,?h⟩
 case h=>conv=>lhs;cbv
def m224:M:=g224.m
def fn224:MFn:=⟨8,[.tmp 6],m224,.pass⟩
theorem fnOk224:FnOk Tryz.prog 224 fn224:=fk Tryz.func224 g224.h
def g226:Got (cmp 22 (kpL passing [] [[0,1],[2,3],[],[2,3],[2,6]]) (bodyOf Tryz.f226)):=by
 refine⟨?m,?h⟩
 case h=>conv=>lhs;reduce
def m226:M:=g226.m
def fn226:MFn:=⟨22,[.tmp 4,.tmp 5],m226,.shut⟩
theorem fnOk226:FnOk Tryz.prog 226 fn226:=fk Tryz.func226 g226.h
def g227:Got (cmp 2 (kpL passing [] [[],[0]]) (bodyOf Tryz.f227)):=by
 refine⟨?m,?h⟩
 case h=>conv=>lhs;cbv
def m227:M:=g227.m
def fn227:MFn:=⟨2,[.cell 0 352],m227,.shut⟩
theorem fnOk227:FnOk Tryz.prog 227 fn227:=fk Tryz.func227 g227.h
def g228:Got (cmp 101 (kpL passing [] [[0,1],[0,1],[0,1],[0,12],[0],[0,12],[0,12],[0,12],[0,12],[0],[0],[0],[0,5,6],[6],[0,5],[0],[0],[0],[0],[]]) (bodyOf Tryz.f228)):=by
 refine⟨?m,?h⟩
 case h=>conv=>lhs;reduce
def m228:M:=g228.m
def fn228:MFn:=⟨101,[.tmp 4],m228,.pass⟩
theorem fnOk228:FnOk Tryz.prog 228 fn228:=fk Tryz.func228 g228.h
def g229:Got (cmp 4 (kpL passing [] [[0],[1]]) (bodyOf Tryz.f229)):=by
 refine⟨?m,?h⟩
 case h=>conv=>lhs;cbv
def m229:M:=g229.m
def fn229:MFn:=⟨4,[.tmp 2],m229,.pass⟩
theorem fnOk229:FnOk Tryz.prog 229 fn229:=fk Tryz.func229 g229.h
def g230:Got (cmp 27 (kpL passing [] [[0,1],[0,1],[0,1],[0,1],[0,1],[0,1],[0]]) (bodyOf Tryz.f230)):=by
 refine⟨?m,?h⟩
 case h=>conv=>lhs;cbv
def m230:M:=g230.m
def fn230:MFn:=⟨27,[.tmp 4],m230,.pass⟩
theorem fnOk230:FnOk Tryz.prog 230 fn230:=fk Tryz.func230 g230.h
def g231:Got (cmp 17 (kpL passing [] [[0,1,2],[0,1,2]]) (bodyOf Tryz.f231)):=by
 refine⟨?m,?h⟩
 case h=>conv=>lhs;cbv
def m231:M:=g231.m
def fn231:MFn:=⟨17,[.tmp 4],m231,.pass⟩
theorem fnOk231:FnOk Tryz.prog 231 fn231:=fk Tryz.func231 g231.h
def g232:Got (cmp 30 (kpL passing [] [[0,1],[2,3],[],[2,3],[],[2,3],[],[2],[],[]]) (bodyOf Tryz.f232)):=by
 refine⟨?m,?h⟩
 case h=>conv=>lhs;cbv
def m232:M:=g232.m
def fn232:MFn:=⟨30,[.tmp 4],m232,.shut⟩
theorem fnOk232:FnOk Tryz.prog 232 fn232:=fk Tryz.func232 g232.h
def g233:Got (cmp 25 (kpL passing [] [[0,1],[1,2],[1,5,6],[],[1,5]]) (bodyOf Tryz.f233)):=by
 refine⟨?m,?h⟩
 case h=>conv=>lhs;reduce
def m233:M:=g233.m
def fn233:MFn:=⟨25,[.tmp 4],m233,.shut⟩
theorem fnOk233:FnOk Tryz.prog 233 fn233:=fk Tryz.func233 g233.h
def g234:Got (cmp 5 (kpL passing [] [[0],[1]]) (bodyOf Tryz.f234)):=by
 refine⟨?m,?h⟩
 case h=>conv=>lhs;cbv
def m234:M:=g234.m
def fn234:MFn:=⟨5,[],m234,.pass⟩
theorem fnOk234:FnOk Tryz.prog 234 fn234:=fk Tryz.func234 g234.h
def g235:Got (cmp 20 (kpL passing [] [[0]]) (bodyOf Tryz.f235)):=by
 refine⟨?m,?h⟩
 case h=>conv=>lhs;reduce
def m235:M:=g235.m
def fn235:MFn:=⟨20,[],m235,.pass⟩
theorem fnOk235:FnOk Tryz.prog 235 fn235:=fk Tryz.func235 g235.h
def g236:Got (cmp 20 (kpL passing [] [[0]]) (bodyOf Tryz.f236)):=by
 refine⟨?m,?h⟩
 case h=>conv=>lhs;reduce
def m236:M:=g236.m
def fn236:MFn:=⟨20,[],m236,.pass⟩
theorem fnOk236:FnOk Tryz.prog 236 fn236:=fk Tryz.func236 g236.h
def g237:Got (cmp 22 (kpL passing [] [[0],[0]]) (bodyOf Tryz.f237)):=by
 refine⟨?m,?h⟩
 case h=>conv=>lhs;reduce
def m237:M:=g237.m
def fn237:MFn:=⟨22,[],m237,.pass⟩
theorem fnOk237:FnOk Tryz.prog 237 fn237:=fk Tryz.func237 g237.h
def g238:Got (cmp 26 (kpL passing [] [[0],[0]]) (bodyOf Tryz.f238)):=by
 refine⟨?m,?h⟩
 case h=>conv=>lhs;reduce
def m238:M:=g238.m
def fn238:MFn:=⟨26,[],m238,.pass⟩
theorem fnOk238:FnOk Tryz.prog 238 fn238:=fk Tryz.func238 g238.h
def g239:Got (cmp 15 (kpL passing [] [[0]]) (bodyOf Tryz.f239)):=by
 refine⟨?m,?h⟩
 case h=>conv=>lhs;reduce
def m239:M:=g239.m
def fn239:MFn:=⟨15,[],m239,.pass⟩
theorem fnOk239:FnOk Tryz.prog 239 fn239:=fk Tryz.func239 g239.h
def g240:Got (cmp 11 (kpL passing [] [[0]]) (bodyOf Tryz.f240)):=by
 refine⟨?m,?h⟩
 case h=>conv=>lhs;cbv
def m240:M:=g240.m
def fn240:MFn:=⟨11,[],m240,.pass⟩
theorem fnOk240:FnOk Tryz.prog 240 fn240:=fk Tryz.func240 g240.h
def g241:Got (cmp 11 (kpL passing [] [[0]]) (bodyOf Tryz.f241)):=by
 refine⟨?m,?h⟩
 case h=>conv=>lhs;cbv
def m241:M:=g241.m
def fn241:MFn:=⟨11,[],m241,.pass⟩
theorem fnOk241:FnOk Tryz.prog 241 fn241:=fk Tryz.func241 g241.h
def g242:Got (cmp 12 (kpL passing [] [[0]]) (bodyOf Tryz.f242)):=by
 refine⟨?m,?h⟩
 case h=>conv=>lhs;cbv
def m242:M:=g242.m
def fn242:MFn:=⟨12,[],m242,.pass⟩
theorem fnOk242:FnOk Tryz.prog 242 fn242:=fk Tryz.func242 g242.h
def g243:Got (cmp 17 (kpL passing [] [[0]]) (bodyOf Tryz.f243)):=by
 refine⟨?m,?h⟩
 case h=>conv=>lhs;reduce
def m243:M:=g243.m
def fn243:MFn:=⟨17,[],m243,.pass⟩
theorem fnOk243:FnOk Tryz.prog 243 fn243:=fk Tryz.func243 g243.h
def g244:Got (cmp 27 (kpL passing [] [[0],[0],[0]]) (bodyOf Tryz.f244)):=by
 refine⟨?m,?h⟩
 case h=>conv=>lhs;reduce
def m244:M:=g244.m
def fn244:MFn:=⟨27,[],m244,.pass⟩
theorem fnOk244:FnOk Tryz.prog 244 fn244:=fk Tryz.func244 g244.h
def g245:Got (cmp 11 (kpL passing [] [[0]]) (bodyOf Tryz.f245)):=by
 refine⟨?m,?h⟩
 case h=>conv=>lhs;cbv
def m245:M:=g245.m
def fn245:MFn:=⟨11,[],m245,.pass⟩
theorem fnOk245:FnOk Tryz.prog 245 fn245:=fk Tryz.func245 g245.h
def g246:Got (cmp 6 (kpL passing [] [[0]]) (bodyOf Tryz.f246)):=by
 refine⟨?m,?h⟩
 case h=>conv=>lhs;cbv
def m246:M:=g246.m
def fn246:MFn:=⟨6,[],m246,.pass⟩
theorem fnOk246:FnOk Tryz.prog 246 fn246:=fk Tryz.func246 g246.h
def g247:Got (cmp 20 (kpL passing [] [[0],[0]]) (bodyOf Tryz.f247)):=by
 refine⟨?m,?h⟩
 case h=>conv=>lhs;cbv
def m247:M:=g247.m
def fn247:MFn:=⟨20,[],m247,.pass⟩
theorem fnOk247:FnOk Tryz.prog 247 fn247:=fk Tryz.func247 g247.h
def g248:Got (cmp 11 (kpL passing [] [[0]]) (bodyOf Tryz.f248)):=by
 refine⟨?m,?h⟩
 case h=>conv=>lhs;cbv
def m248:M:=g248.m
def fn248:MFn:=⟨11,[],m248,.pass⟩
theorem fnOk248:FnOk Tryz.prog 248 fn248:=fk Tryz.func248 g248.h
def g249:Got (cmp 4 (kpL passing [] [[0],[1]]) (bodyOf Tryz.f249)):=by
 refine⟨?m,?h⟩
 case h=>conv=>lhs;cbv
def m249:M:=g249.m
def fn249:MFn:=⟨4,[.tmp 2],m249,.pass⟩
theorem fnOk249:FnOk Tryz.prog 249 fn249:=fk Tryz.func249 g249.h
def g250:Got (cmp 47 (kpL passing [] [[0],[0],[],[0],[],[0],[25],[25],[],[25],[],[25],[],[25],[],[25],[25],[25],[25],[25],[25],[25],[25],[25],[25],[25],[],[]]) (bodyOf Tryz.f250)):=by
 refine⟨?m,?h⟩
 case h=>conv=>lhs;cbv
def m250:M:=g250.m
def fn250:MFn:=⟨47,[.tmp 2],m250,.shut⟩
theorem fnOk250:FnOk Tryz.prog 250 fn250:=fk Tryz.func250 g250.h
def g251:Got (cmp 22 (kpL passing [] [[0],[0],[3],[3],[3],[3],[3],[3],[3],[3],[3],[3],[3],[3],[3],[3],[3],[3],[3],[],[]]) (bodyOf Tryz.f251)):=by
 refine⟨?m,?h⟩
 case h=>conv=>lhs;cbv
def m251:M:=g251.m
def fn251:MFn:=⟨22,[.tmp 2],m251,.shut⟩
theorem fnOk251:FnOk Tryz.prog 251 fn251:=fk Tryz.func251 g251.h
def g252:Got (cmp 16 (kpL passing [] [[0],[0],[3]]) (bodyOf Tryz.f252)):=by
 refine⟨?m,?h⟩
 case h=>conv=>lhs;cbv
def m252:M:=g252.m
def fn252:MFn:=⟨16,[.tmp 2],m252,.shut⟩
theorem fnOk252:FnOk Tryz.prog 252 fn252:=fk Tryz.func252 g252.h
def g253:Got (cmp 19 (kpL passing [] [[0,1],[0,1],[0,1,7,8],[0,1,7,8],[0,1,5,7,8],[5],[0,1,7,8],[]]) (bodyOf Tryz.f253)):=by
 refine⟨?m,?h⟩
 case h=>conv=>lhs;cbv
def m253:M:=g253.m
def fn253:MFn:=⟨19,[.tmp 4],m253,.shut⟩
theorem fnOk253:FnOk Tryz.prog 253 fn253:=fk Tryz.func253 g253.h
def g253_l0:Got ((loopsM m253).getD 0 .bad):=by
 refine⟨?m,?h⟩
 case h=>conv=>lhs;cbv
def m253_l0:M:=g253_l0.m
theorem u253_l0:UL m253_l0 g253_l0.m:=ul
def g254:Got (cmp 16 (kpL passing [] [[0],[0]]) (bodyOf Tryz.f254)):=by
 refine⟨?m,?h⟩
 case h=>conv=>lhs;cbv
def m254:M:=g254.m
def fn254:MFn:=⟨16,[.tmp 1],m254,.pass⟩
theorem fnOk254:FnOk Tryz.prog 254 fn254:=fk Tryz.func254 g254.h
def g255:Got (cmp 9 (kpL passing [] [[0],[0]]) (bodyOf Tryz.f255)):=by
 refine⟨?m,?h⟩
 case h=>conv=>lhs;reduce
def m255:M:=g255.m
def fn255:MFn:=⟨9,[.tmp 1],m255,.pass⟩
theorem fnOk255:FnOk Tryz.prog 255 fn255:=fk Tryz.func255 g255.h
def g256:Got (cmp 67 (kpL passing [] [[0],[0,2],[0,2,3],[0,2,3],[0,2,3],[0,2,3],[0,2,3],[0,2,3],[0,2,3],[0,2,3],[0,2,3],[0,2,3],[0,2,3],[0,2,3],[0,2,3],[0,2,3],[2,3]]) (bodyOf Tryz.f256)):=by
 refine⟨?m,?h⟩
 case h=>conv=>lhs;cbv
def m256:M:=g256.m
def fn256:MFn:=⟨67,[.cell 2 93],m256,.pass⟩
theorem fnOk256:FnOk Tryz.prog 256 fn256:=fk Tryz.func256 g256.h
def g257:Got (cmp 8 (kpL passing [] [[0],[0]]) (bodyOf Tryz.f257)):=by
 refine⟨?m,?h⟩
 case h=>conv=>lhs;cbv
def m257:M:=g257.m
def fn257:MFn:=⟨8,[.tmp 1],m257,.pass⟩
theorem fnOk257:FnOk Tryz.prog 257 fn257:=fk Tryz.func257 g257.h
def g258:Got (cmp 18 (kpL passing [] [[0],[0]]) (bodyOf Tryz.f258)):=by
 refine⟨?m,?h⟩
 case h=>conv=>lhs;reduce
def m258:M:=g258.m
def fn258:MFn:=⟨18,[.tmp 1],m258,.pass⟩
theorem fnOk258:FnOk Tryz.prog 258 fn258:=fk Tryz.func258 g258.h
def g259:Got (cmp 15 (kpL passing [] [[0,1],[0,1]]) (bodyOf Tryz.f259)):=by
 refine⟨?m,?h⟩
 case h=>conv=>lhs;cbv
def m259:M:=g259.m
def fn259:MFn:=⟨15,[.tmp 4],m259,.pass⟩
theorem fnOk259:FnOk Tryz.prog 259 fn259:=fk Tryz.func259 g259.h
def g260:Got (cmp 16 (kpL passing [] [[0],[0]]) (bodyOf Tryz.f260)):=by
 refine⟨?m,?h⟩
 case h=>conv=>lhs;cbv
def m260:M:=g260.m
def fn260:MFn:=⟨16,[.tmp 1],m260,.pass⟩
theorem fnOk260:FnOk Tryz.prog 260 fn260:=fk Tryz.func260 g260.h
def g261:Got (cmp 11 (kpL passing [] [[0],[1]]) (bodyOf Tryz.f261)):=by
 refine⟨?m,?h⟩
 case h=>conv=>lhs;cbv
def m261:M:=g261.m
def fn261:MFn:=⟨11,[.tmp 2],m261,.shut⟩
theorem fnOk261:FnOk Tryz.prog 261 fn261:=fk Tryz.func261 g261.h
def g262:Got (cmp 64 (kpL passing [] [[0],[0],[0,7],[0],[0,7],[0],[0,7],[0],[]]) (bodyOf Tryz.f262)):=by
 refine⟨?m,?h⟩
 case h=>conv=>lhs;cbv
def m262:M:=g262.m
def fn262:MFn:=⟨64,[.tmp 2],m262,.pass⟩
theorem fnOk262:FnOk Tryz.prog 262 fn262:=fk Tryz.func262 g262.h
def g263:Got (cmp 56 (kpL passing [] [[0],[0],[0,7],[0],[0,7],[0],[]]) (bodyOf Tryz.f263)):=by
 refine⟨?m,?h⟩
 case h=>conv=>lhs;cbv
def m263:M:=g263.m
def fn263:MFn:=⟨56,[.tmp 2],m263,.pass⟩
theorem fnOk263:FnOk Tryz.prog 263 fn263:=fk Tryz.func263 g263.h
def g264:Got (cmp 26 (kpL passing [] [[0],[0]]) (bodyOf Tryz.f264)):=by
 refine⟨?m,?h⟩
 case h=>conv=>lhs;reduce
def m264:M:=g264.m
def fn264:MFn:=⟨26,[.tmp 1],m264,.pass⟩
theorem fnOk264:FnOk Tryz.prog 264 fn264:=fk Tryz.func264 g264.h
def g265:Got (cmp 7 (kpL passing [] [[],[]]) (bodyOf Tryz.f265)):=by
 refine⟨?m,?h⟩
 case h=>conv=>lhs;cbv
def m265:M:=g265.m
def fn265:MFn:=⟨7,[.tmp 0],m265,.shut⟩
theorem fnOk265:FnOk Tryz.prog 265 fn265:=fk Tryz.func265 g265.h
def g284:Got (cmp 20 (kpL passing [] [[0,1],[1,2],[1,5,6],[],[1,5]]) (bodyOf Tryz.f284)):=by
 refine⟨?m,?h⟩
 case h=>conv=>lhs;cbv
def m284:M:=g284.m
def fn284:MFn:=⟨20,[.tmp 4],m284,.shut⟩
theorem fnOk284:FnOk Tryz.prog 284 fn284:=fk Tryz.func284 g284.h
def g285:Got (cmp 25 (kpL passing [] [[0,1,2,3],[0,2,3,8,9],[0,2,3,8,9],[0,2,3,5,8,9],[0,2,3,8,9]]) (bodyOf Tryz.f285)):=by
 refine⟨?m,?h⟩
 case h=>conv=>lhs;reduce
def m285:M:=g285.m
def fn285:MFn:=⟨25,[],m285,.pass⟩
theorem fnOk285:FnOk Tryz.prog 285 fn285:=fk Tryz.func285 g285.h
def g285_l0:Got ((loopsM m285).getD 0 .bad):=by
 refine⟨?m,?h⟩
 case h=>conv=>lhs;cbv
def m285_l0:M:=g285_l0.m
theorem u285_l0:UL m285_l0 g285_l0.m:=ul
def g286:Got (cmp 3 (kpL passing [] [[0],[0]]) (bodyOf Tryz.f286)):=by
 refine⟨?m,?h⟩
 case h=>conv=>lhs;cbv
def m286:M:=g286.m
def fn286:MFn:=⟨3,[],m286,.pass⟩
theorem fnOk286:FnOk Tryz.prog 286 fn286:=fk Tryz.func286 g286.h
def g287:Got (cmp 35 (kpL passing [] [[0],[1],[],[1],[1,12],[1],[1,12],[1,12],[1,12],[1],[]]) (bodyOf Tryz.f287)):=by
 refine⟨?m,?h⟩
 case h=>conv=>lhs;cbv
def m287:M:=g287.m
def fn287:MFn:=⟨35,[.tmp 2],m287,.shut⟩
theorem fnOk287:FnOk Tryz.prog 287 fn287:=fk Tryz.func287 g287.h
def g288:Got (cmp 16 (kpL passing [] [[0,1,2],[0,1,2]]) (bodyOf Tryz.f288)):=by
 refine⟨?m,?h⟩
 case h=>conv=>lhs;reduce
def m288:M:=g288.m
def fn288:MFn:=⟨16,[.tmp 4],m288,.pass⟩
theorem fnOk288:FnOk Tryz.prog 288 fn288:=fk Tryz.func288 g288.h
def g289:Got (cmp 15 (kpL passing [] [[0],[0]]) (bodyOf Tryz.f289)):=by
 refine⟨?m,?h⟩
 case h=>conv=>lhs;cbv
def m289:M:=g289.m
def fn289:MFn:=⟨15,[],m289,.pass⟩
theorem fnOk289:FnOk Tryz.prog 289 fn289:=fk Tryz.func289 g289.h
def g290:Got (cmp 8 (kpL passing [] [[0]]) (bodyOf Tryz.f290)):=by
 refine⟨?m,?h⟩
 case h=>conv=>lhs;cbv
def m290:M:=g290.m
def fn290:MFn:=⟨8,[],m290,.pass⟩
theorem fnOk290:FnOk Tryz.prog 290 fn290:=fk Tryz.func290 g290.h
def g291:Got (cmp 8 (kpL passing [] [[0]]) (bodyOf Tryz.f291)):=by
 refine⟨?m,?h⟩
 case h=>conv=>lhs;cbv
def m291:M:=g291.m
def fn291:MFn:=⟨8,[],m291,.pass⟩
theorem fnOk291:FnOk Tryz.prog 291 fn291:=fk Tryz.func291 g291.h
def g292:Got (cmp 13 (kpL passing [] [[0]]) (bodyOf Tryz.f292)):=by
 refine⟨?m,?h⟩
 case h=>conv=>lhs;reduce
def m292:M:=g292.m
def fn292:MFn:=⟨13,[],m292,.pass⟩
theorem fnOk292:FnOk Tryz.prog 292 fn292:=fk Tryz.func292 g292.h
def g293:Got (cmp 21 (kpL passing [] [[0]]) (bodyOf Tryz.f293)):=by
 refine⟨?m,?h⟩
 case h=>conv=>lhs;reduce
def m293:M:=g293.m
def fn293:MFn:=⟨21,[],m293,.pass⟩
theorem fnOk293:FnOk Tryz.prog 293 fn293:=fk Tryz.func293 g293.h
def g294:Got (cmp 13 (kpL passing [] [[0]]) (bodyOf Tryz.f294)):=by
 refine⟨?m,?h⟩
 case h=>conv=>lhs;reduce
def m294:M:=g294.m
def fn294:MFn:=⟨13,[],m294,.pass⟩
theorem fnOk294:FnOk Tryz.prog 294 fn294:=fk Tryz.func294 g294.h
def g295:Got (cmp 11 (kpL passing [] [[0]]) (bodyOf Tryz.f295)):=by
 refine⟨?m,?h⟩
 case h=>conv=>lhs;cbv
def m295:M:=g295.m
def fn295:MFn:=⟨11,[],m295,.pass⟩
theorem fnOk295:FnOk Tryz.prog 295 fn295:=fk Tryz.func295 g295.h
def g296:Got (cmp 8 (kpL passing [] [[0]]) (bodyOf Tryz.f296)):=by
 refine⟨?m,?h⟩
 case h=>conv=>lhs;cbv
def m296:M:=g296.m
def fn296:MFn:=⟨8,[],m296,.pass⟩
theorem fnOk296:FnOk Tryz.prog 296 fn296:=fk Tryz.func296 g296.h
def g297:Got (cmp 92 (kpL passing [] [[0],[0,2],[0,2],[0,2,3],[0,2,3,4],[0,2,3,4],[0,2,3,4],[0,2,3,4]]) (bodyOf Tryz.f297)):=by
 refine⟨?m,?h⟩
 case h=>conv=>lhs;reduce
def m297:M:=g297.m
def fn297:MFn:=⟨92,[],m297,.pass⟩
theorem fnOk297:FnOk Tryz.prog 297 fn297:=fk Tryz.func297 g297.h
def g298:Got (cmp 5 (kpL passing [] [[0]]) (bodyOf Tryz.f298)):=by
 refine⟨?m,?h⟩
 case h=>conv=>lhs;cbv
def m298:M:=g298.m
def fn298:MFn:=⟨5,[],m298,.pass⟩
theorem fnOk298:FnOk Tryz.prog 298 fn298:=fk Tryz.func298 g298.h
def g299:Got (cmp 76 (kpL passing [] [[0,1,2],[3,4,5,6],[4,6],[3,4,5,6],[4,6],[3,4,5,6],[3,4,5,6,8,9,10],[4,5,6,8,9],[4,6],[3,4,5,6,8],[4,5,6,8,9,11],[4,6],[4,5,6,8,9],[4,6,8,9],[4,6]]) (bodyOf Tryz.f299)):=by
 refine⟨?m,?h⟩
 case h=>conv=>lhs;reduce
def m299:M:=g299.m
def fn299:MFn:=⟨76,[.cell 6 123,.tmp 7],m299,.shut⟩
theorem fnOk299:FnOk Tryz.prog 299 fn299:=fk Tryz.func299 g299.h
def g300:Got (cmp 29 (kpL passing [] [[0,1,2],[2,3,4,6],[4,6,7,8,9],[4,6,7,8],[4,6]]) (bodyOf Tryz.f300)):=by
 refine⟨?m,?h⟩
 case h=>conv=>lhs;cbv
def m300:M:=g300.m
def fn300:MFn:=⟨29,[.cell 6 123],m300,.shut⟩
theorem fnOk300:FnOk Tryz.prog 300 fn300:=fk Tryz.func300 g300.h
def g301:Got (cmp 26 (kpL passing [] [[0,1,2],[2,3,4,6],[4,6,7,8,9],[4,6,7,8],[4,6]]) (bodyOf Tryz.f301)):=by
 refine⟨?m,?h⟩
 case h=>conv=>lhs;cbv
def m301:M:=g301.m
def fn301:MFn:=⟨26,[.cell 6 123],m301,.shut⟩
theorem fnOk301:FnOk Tryz.prog 301 fn301:=fk Tryz.func301 g301.h
def g302:Got (cmp 13 (kpL passing [] [[0,1],[1,2]]) (bodyOf Tryz.f302)):=by
 refine⟨?m,?h⟩
 case h=>conv=>lhs;cbv
def m302:M:=g302.m
def fn302:MFn:=⟨13,[.tmp 3],m302,.pass⟩
theorem fnOk302:FnOk Tryz.prog 302 fn302:=fk Tryz.func302 g302.h
def g303:Got (cmp 29 (kpL passing [] [[0,1],[1,4],[1,4,17],[1,4,17],[1,4,5,17],[1,4,5,17],[1,4,17]]) (bodyOf Tryz.f303)):=by
 refine⟨?m,?h⟩
 case h=>conv=>lhs;reduce
def m303:M:=g303.m
def fn303:MFn:=⟨29,[],m303,.pass⟩
theorem fnOk303:FnOk Tryz.prog 303 fn303:=fk Tryz.func303 g303.h
def g303_l0:Got ((loopsM m303).getD 0 .bad):=by
 refine⟨?m,?h⟩
 case h=>conv=>lhs;cbv
def m303_l0:M:=g303_l0.m
theorem u303_l0:UL m303_l0 g303_l0.m:=ul
def g304:Got (cmp 36 (kpL passing [] [[0,1],[0,1],[1]]) (bodyOf Tryz.f304)):=by
 refine⟨?m,?h⟩
 case h=>conv=>lhs;reduce
def m304:M:=g304.m
def fn304:MFn:=⟨36,[],m304,.pass⟩
theorem fnOk304:FnOk Tryz.prog 304 fn304:=fk Tryz.func304 g304.h
def g305:Got (cmp 34 (kpL passing [] [[0,1],[0,6,7,8],[0,6,7,8],[0,5,6,7,8],[0,5,6,7,8],[0,6,7,8]]) (bodyOf Tryz.f305)):=by
 refine⟨?m,?h⟩
 case h=>conv=>lhs;reduce
def m305:M:=g305.m
def fn305:MFn:=⟨34,[],m305,.pass⟩
theorem fnOk305:FnOk Tryz.prog 305 fn305:=fk Tryz.func305 g305.h
def g305_l0:Got ((loopsM m305).getD 0 .bad):=by
 refine⟨?m,?h⟩
 case h=>conv=>lhs;cbv
def m305_l0:M:=g305_l0.m
theorem u305_l0:UL m305_l0 g305_l0.m:=ul
def g306:Got (cmp 6 (kpL passing [] [[0],[1,2]]) (bodyOf Tryz.f306)):=by
 refine⟨?m,?h⟩
 case h=>conv=>lhs;cbv
def m306:M:=g306.m
def fn306:MFn:=⟨6,[.cell 2 50],m306,.shut⟩
theorem fnOk306:FnOk Tryz.prog 306 fn306:=fk Tryz.func306 g306.h
def g307:Got (cmp 26 (kpL passing [] [[0,1],[1,2,4],[1,2,4,5,6],[2,4],[1,2,4,5]]) (bodyOf Tryz.f307)):=by
 refine⟨?m,?h⟩
 case h=>conv=>lhs;reduce
def m307:M:=g307.m
def fn307:MFn:=⟨26,[.cell 4 50],m307,.shut⟩
theorem fnOk307:FnOk Tryz.prog 307 fn307:=fk Tryz.func307 g307.h
def g308:Got (cmp 23 (kpL passing [] [[0,1],[0,1,3,4],[0,1,3],[0,1,3],[0,1,3],[0,1,22]]) (bodyOf Tryz.f308)):=by
 refine⟨?m,?h⟩
 case h=>conv=>lhs;reduce
def m308:M:=g308.m
def fn308:MFn:=⟨23,[],m308,.pass⟩
theorem fnOk308:FnOk Tryz.prog 308 fn308:=fk Tryz.func308 g308.h
def g308_l0:Got ((loopsM m308).getD 0 .bad):=by
 refine⟨?m,?h⟩
 case h=>conv=>lhs;cbv
def m308_l0:M:=g308_l0.m
theorem u308_l0:UL m308_l0 g308_l0.m:=ul
def g309:Got (cmp 57 (kpL passing [] [[0],[0,2],[0,2],[0,2],[0,2],[0,2],[0,2,4],[0,2,4,5],[0,2,4,5],[0,2,4],[2,4],[0,2,5],[2]]) (bodyOf Tryz.f309)):=by
 refine⟨?m,?h⟩
 case h=>conv=>lhs;reduce
def m309:M:=g309.m
def fn309:MFn:=⟨57,[.cell 2 325,.tmp 3],m309,.pass⟩
theorem fnOk309:FnOk Tryz.prog 309 fn309:=fk Tryz.func309 g309.h
def g309_l0:Got ((loopsM m309).getD 0 .bad):=by
 refine⟨?m,?h⟩
 case h=>conv=>lhs;cbv
def m309_l0:M:=g309_l0.m
theorem u309_l0:UL m309_l0 g309_l0.m:=ul
def g310:Got (cmp 30 (kpL passing [] [[0],[1],[1,6],[1],[],[1,6],[1],[4],[],[1,6],[1],[],[]]) (bodyOf Tryz.f310)):=by
 refine⟨?m,?h⟩
 case h=>conv=>lhs;cbv
def m310:M:=g310.m
def fn310:MFn:=⟨30,[.tmp 2],m310,.shut⟩
theorem fnOk310:FnOk Tryz.prog 310 fn310:=fk Tryz.func310 g310.h
def g311:Got (cmp 45 (kpL passing [] [[0,1],[1,2,4],[1,2,4,8,9],[1,2,4,8,9],[1,2,4,5,8,9],[1,2,4,5],[1,2,4,8,9],[1,2,4],[2,4]]) (bodyOf Tryz.f311)):=by
 refine⟨?m,?h⟩
 case h=>conv=>lhs;reduce
def m311:M:=g311.m
def fn311:MFn:=⟨45,[.cell 4 118],m311,.shut⟩
theorem fnOk311:FnOk Tryz.prog 311 fn311:=fk Tryz.func311 g311.h
def g311_l0:Got ((loopsM m311).getD 0 .bad):=by
 refine⟨?m,?h⟩
 case h=>conv=>lhs;cbv
def m311_l0:M:=g311_l0.m
theorem u311_l0:UL m311_l0 g311_l0.m:=ul
def g312:Got (cmp 25 (kpL passing [] [[0,1],[1,2],[1,2,6],[1,2,6],[1,2,6],[1,2,6,7],[7],[]]) (bodyOf Tryz.f312)):=by
 refine⟨?m,?h⟩
 case h=>conv=>lhs;cbv
def m312:M:=g312.m
def fn312:MFn:=⟨25,[.tmp 4,.tmp 5],m312,.pass⟩
theorem fnOk312:FnOk Tryz.prog 312 fn312:=fk Tryz.func312 g312.h
def g312_l0:Got ((loopsM m312).getD 0 .bad):=by
 refine⟨?m,?h⟩
 case h=>conv=>lhs;cbv
def m312_l0:M:=g312_l0.m
theorem u312_l0:UL m312_l0 g312_l0.m:=ul
def g313:Got (cmp 7 (kpL passing [] [[0],[2,4]]) (bodyOf Tryz.f313)):=by
 refine⟨?m,?h⟩
 case h=>conv=>lhs;cbv
def m313:M:=g313.m
def fn313:MFn:=⟨7,[.cell 4 118],m313,.shut⟩
theorem fnOk313:FnOk Tryz.prog 313 fn313:=fk Tryz.func313 g313.h
def g314:Got (cmp 23 (kpL passing [] [[0,1],[1,2,4],[1,2,4,5],[1,2,4,5,6],[1,2,4,5,6],[2,4]]) (bodyOf Tryz.f314)):=by
 refine⟨?m,?h⟩
 case h=>conv=>lhs;cbv
def m314:M:=g314.m
def fn314:MFn:=⟨23,[.cell 4 118],m314,.shut⟩
theorem fnOk314:FnOk Tryz.prog 314 fn314:=fk Tryz.func314 g314.h
def g315:Got (cmp 55 (kpL passing [] [[0,1],[1,2],[1,2,6],[1,2,6],[1,2,6],[1,6,7],[1,6,7],[1,6,7],[1,8],[],[8]]) (bodyOf Tryz.f315)):=by
 refine⟨?m,?h⟩
 case h=>conv=>lhs;cbv
def m315:M:=g315.m
def fn315:MFn:=⟨55,[.tmp 4,.tmp 5],m315,.pass⟩
theorem fnOk315:FnOk Tryz.prog 315 fn315:=fk Tryz.func315 g315.h
def g316:Got (cmp 26 (kpL passing [] [[0,1],[1,2],[1,2,6],[1,2,6],[1,2,6],[1,2,6,7],[7],[]]) (bodyOf Tryz.f316)):=by
 refine⟨?m,?h⟩
 case h=>conv=>lhs;cbv
def m316:M:=g316.m
def fn316:MFn:=⟨26,[.tmp 4,.tmp 5],m316,.pass⟩
theorem fnOk316:FnOk Tryz.prog 316 fn316:=fk Tryz.func316 g316.h
def g316_l0:Got ((loopsM m316).getD 0 .bad):=by
 refine⟨?m,?h⟩
 case h=>conv=>lhs;cbv
def m316_l0:M:=g316_l0.m
theorem u316_l0:UL m316_l0 g316_l0.m:=ul
def g330:Got (cmp 37 (kpL passing [] [[0],[1],[1,3],[1,3,7,8],[1,3,7,8],[1,3,5,7,8],[1,3,4,5,7,8],[1,3,5,7,8],[],[1,3,5,7,8],[],[1,3,7,8],[]]) (bodyOf Tryz.f330)):=by
 refine⟨?m,?h⟩
 case h=>conv=>lhs;cbv
def m330:M:=g330.m
def fn330:MFn:=⟨37,[.tmp 2],m330,.shut⟩
theorem fnOk330:FnOk Tryz.prog 330 fn330:=fk Tryz.func330 g330.h
def g330_l0:Got ((loopsM m330).getD 0 .bad):=by
 refine⟨?m,?h⟩
 case h=>conv=>lhs;cbv
def m330_l0:M:=g330_l0.m
theorem u330_l0:UL m330_l0 g330_l0.m:=ul
def g331:Got (cmp 34 (kpL passing [] [[0,1],[0,6,7,8],[0,6,7,8],[0,5,6,7,8],[0,5,6,7,8],[0,6,7,8]]) (bodyOf Tryz.f331)):=by
 refine⟨?m,?h⟩
 case h=>conv=>lhs;reduce
def m331:M:=g331.m
def fn331:MFn:=⟨34,[],m331,.pass⟩
theorem fnOk331:FnOk Tryz.prog 331 fn331:=fk Tryz.func331 g331.h
def g331_l0:Got ((loopsM m331).getD 0 .bad):=by
 refine⟨?m,?h⟩
 case h=>conv=>lhs;cbv
def m331_l0:M:=g331_l0.m
theorem u331_l0:UL m331_l0 g331_l0.m:=ul
def g332:Got (cmp 13 (kpL passing [] [[0],[0]]) (bodyOf Tryz.f332)):=by
 refine⟨?m,?h⟩
 case h=>conv=>lhs;reduce
def m332:M:=g332.m
def fn332:MFn:=⟨13,[.tmp 2],m332,.pass⟩
theorem fnOk332:FnOk Tryz.prog 332 fn332:=fk Tryz.func332 g332.h
def g333:Got (cmp 21 (kpL passing [] [[0,1,2],[2,3,4],[2,4,7,8],[],[2,4,7]]) (bodyOf Tryz.f333)):=by
 refine⟨?m,?h⟩
 case h=>conv=>lhs;cbv
def m333:M:=g333.m
def fn333:MFn:=⟨21,[.tmp 6],m333,.shut⟩
theorem fnOk333:FnOk Tryz.prog 333 fn333:=fk Tryz.func333 g333.h
def g334:Got (cmp 27 (kpL passing [] [[0,1],[1,2],[1,2,6],[1,2,6],[2],[1,2,6],[1,2],[1,2,6],[1,2],[2],[1]]) (bodyOf Tryz.f334)):=by
 refine⟨?m,?h⟩
 case h=>conv=>lhs;cbv
def m334:M:=g334.m
def fn334:MFn:=⟨27,[.tmp 4],m334,.shut⟩
theorem fnOk334:FnOk Tryz.prog 334 fn334:=fk Tryz.func334 g334.h
def g335:Got (cmp 28 (kpL passing [] [[0,1],[1,2,4],[2,4],[1,2,4]]) (bodyOf Tryz.f335)):=by
 refine⟨?m,?h⟩
 case h=>conv=>lhs;reduce
def m335:M:=g335.m
def fn335:MFn:=⟨28,[.cell 4 118],m335,.shut⟩
theorem fnOk335:FnOk Tryz.prog 335 fn335:=fk Tryz.func335 g335.h
def g336:Got (cmp 28 (kpL passing [] [[0,1],[1,2,4],[2,4],[1,2,4]]) (bodyOf Tryz.f336)):=by
 refine⟨?m,?h⟩
 case h=>conv=>lhs;reduce
def m336:M:=g336.m
def fn336:MFn:=⟨28,[.cell 4 118],m336,.shut⟩
theorem fnOk336:FnOk Tryz.prog 336 fn336:=fk Tryz.func336 g336.h
def g337:Got (cmp 45 (kpL passing [6] [[0,1],[1,2,4],[],[1,2,4],[2,4,5],[5],[2,4,5],[2,5],[2,4,5],[2,4,5,6],[6,36],[6,7],[5,6]]) (bodyOf Tryz.f337)):=by
 refine⟨?m,?h⟩
 case h=>conv=>lhs;reduce
def m337:M:=g337.m
def fn337:MFn:=⟨45,[.tmp 4],m337,.shut⟩
theorem fnOk337:FnOk Tryz.prog 337 fn337:=fk Tryz.func337 g337.h
def g337_l0:Got ((loopsM m337).getD 0 .bad):=by
 refine⟨?m,?h⟩
 case h=>conv=>lhs;cbv
def m337_l0:M:=g337_l0.m
theorem u337_l0:UL m337_l0 g337_l0.m:=ul
def g337_l1:Got ((loopsM m337).getD 1 .bad):=by
 refine⟨?m,?h⟩
 case h=>conv=>lhs;cbv
def m337_l1:M:=g337_l1.m
theorem u337_l1:UL m337_l1 g337_l1.m:=ul
def g338:Got (cmp 3 (kpL passing [] [[],[]]) (bodyOf Tryz.f338)):=by
 refine⟨?m,?h⟩
 case h=>conv=>lhs;cbv
def m338:M:=g338.m
def fn338:MFn:=⟨3,[.tmp 0],m338,.shut⟩
theorem fnOk338:FnOk Tryz.prog 338 fn338:=fk Tryz.func338 g338.h
def g339:Got (cmp 50 (kpL passing [] [[0],[0],[0],[0],[0]]) (bodyOf Tryz.f339)):=by
 refine⟨?m,?h⟩
 case h=>conv=>lhs;reduce
def m339:M:=g339.m
def fn339:MFn:=⟨50,[],m339,.pass⟩
theorem fnOk339:FnOk Tryz.prog 339 fn339:=fk Tryz.func339 g339.h
def g339_l0:Got ((loopsM m339).getD 0 .bad):=by
 refine⟨?m,?h⟩
 case h=>conv=>lhs;cbv
def m339_l0:M:=g339_l0.m
theorem u339_l0:UL m339_l0 g339_l0.m:=ul
def g339_l1:Got ((loopsM m339).getD 1 .bad):=by
 refine⟨?m,?h⟩
 case h=>conv=>lhs;cbv
def m339_l1:M:=g339_l1.m
theorem u339_l1:UL m339_l1 g339_l1.m:=ul
def g340:Got (cmp 18 (kpL passing [] [[0],[0]]) (bodyOf Tryz.f340)):=by
 refine⟨?m,?h⟩
 case h=>conv=>lhs;reduce
def m340:M:=g340.m
def fn340:MFn:=⟨18,[.tmp 2],m340,.pass⟩
theorem fnOk340:FnOk Tryz.prog 340 fn340:=fk Tryz.func340 g340.h
def g341:Got (cmp 51 (kpL passing [] [[0],[0,2],[0,2,3,4],[0,2,3,4,17],[0,2],[0,2,3,4,17],[0,2],[0,2,3,4],[0,2,3,4,5],[0,2,3,5]]) (bodyOf Tryz.f341)):=by
 refine⟨?m,?h⟩
 case h=>conv=>lhs;reduce
def m341:M:=g341.m
def fn341:MFn:=⟨51,[.cell 2 325],m341,.pass⟩
theorem fnOk341:FnOk Tryz.prog 341 fn341:=fk Tryz.func341 g341.h
def g342:Got (cmp 13 (kpL passing [] [[0],[0]]) (bodyOf Tryz.f342)):=by
 refine⟨?m,?h⟩
 case h=>conv=>lhs;reduce
def m342:M:=g342.m
def fn342:MFn:=⟨13,[.tmp 2],m342,.pass⟩
theorem fnOk342:FnOk Tryz.prog 342 fn342:=fk Tryz.func342 g342.h
def g343:Got (cmp 47 (kpL passing [] [[0],[0],[],[0],[0,4],[0,4,25,26],[0,4,25,26],[0,4,5,25,26],[],[0,4,5,25,26],[0,4,25,26],[4],[],[4]]) (bodyOf Tryz.f343)):=by
 refine⟨?m,?h⟩
 case h=>conv=>lhs;cbv
def m343:M:=g343.m
def fn343:MFn:=⟨47,[.tmp 2,.tmp 3],m343,.shut⟩
theorem fnOk343:FnOk Tryz.prog 343 fn343:=fk Tryz.func343 g343.h
def g343_l0:Got ((loopsM m343).getD 0 .bad):=by
 refine⟨?m,?h⟩
 case h=>conv=>lhs;cbv
def m343_l0:M:=g343_l0.m
theorem u343_l0:UL m343_l0 g343_l0.m:=ul
def g344:Got (cmp 22 (kpL passing [] [[0,1,2],[0,1,2],[0,2]]) (bodyOf Tryz.f344)):=by
 refine⟨?m,?h⟩
 case h=>conv=>lhs;reduce
def m344:M:=g344.m
def fn344:MFn:=⟨22,[],m344,.pass⟩
theorem fnOk344:FnOk Tryz.prog 344 fn344:=fk Tryz.func344 g344.h
def g346:Got (cmp 14 (kpL passing [] [[0],[0],[],[0]]) (bodyOf Tryz.f346)):=by
 refine⟨?m,?h⟩
 case h=>conv=>lhs;cbv
def m346:M:=g346.m
def fn346:MFn:=⟨14,[.tmp 2],m346,.shut⟩
theorem fnOk346:FnOk Tryz.prog 346 fn346:=fk Tryz.func346 g346.h
def g348:Got (cmp 6 (kpL passing [] [[0],[0]]) (bodyOf Tryz.f348)):=by
 refine⟨?m,?h⟩
 case h=>conv=>lhs;cbv
def m348:M:=g348.m
def fn348:MFn:=⟨6,[.tmp 2],m348,.shut⟩
theorem fnOk348:FnOk Tryz.prog 348 fn348:=fk Tryz.func348 g348.h
def g349:Got (cmp 4 (kpL passing [] [[0],[1]]) (bodyOf Tryz.f349)):=by
 refine⟨?m,?h⟩
 case h=>conv=>lhs;cbv
def m349:M:=g349.m
def fn349:MFn:=⟨4,[.tmp 2],m349,.pass⟩
theorem fnOk349:FnOk Tryz.prog 349 fn349:=fk Tryz.func349 g349.h
def g350:Got (cmp 15 (kpL passing [] [[0,1],[1,2,4],[2,4]]) (bodyOf Tryz.f350)):=by
 refine⟨?m,?h⟩
 case h=>conv=>lhs;cbv
def m350:M:=g350.m
def fn350:MFn:=⟨15,[.cell 4 50],m350,.shut⟩
theorem fnOk350:FnOk Tryz.prog 350 fn350:=fk Tryz.func350 g350.h
def g351:Got (cmp 39 (kpL passing [] [[0,1],[1,2,4],[2,4,5],[2,4,5],[2,4,5],[2,4],[2,4]]) (bodyOf Tryz.f351)):=by
 refine⟨?m,?h⟩
 case h=>conv=>lhs;cbv
def m351:M:=g351.m
def fn351:MFn:=⟨39,[.cell 4 50],m351,.shut⟩
theorem fnOk351:FnOk Tryz.prog 351 fn351:=fk Tryz.func351 g351.h
def g352:Got (cmp 16 (kpL passing [] [[0,1],[1,2,4],[2,4]]) (bodyOf Tryz.f352)):=by
 refine⟨?m,?h⟩
 case h=>conv=>lhs;cbv
def m352:M:=g352.m
def fn352:MFn:=⟨16,[.cell 4 50],m352,.shut⟩
theorem fnOk352:FnOk Tryz.prog 352 fn352:=fk Tryz.func352 g352.h
def g353:Got (cmp 46 (kpL passing [] [[0],[0],[0,3],[0,3,4],[3],[3]]) (bodyOf Tryz.f353)):=by
 refine⟨?m,?h⟩
 case h=>conv=>lhs;reduce
def m353:M:=g353.m
def fn353:MFn:=⟨46,[.tmp 2],m353,.pass⟩
theorem fnOk353:FnOk Tryz.prog 353 fn353:=fk Tryz.func353 g353.h
def g354:Got (cmp 28 (kpL passing [] [[0],[0],[0,3],[0,3],[3]]) (bodyOf Tryz.f354)):=by
 refine⟨?m,?h⟩
 case h=>conv=>lhs;cbv
def m354:M:=g354.m
def fn354:MFn:=⟨28,[.tmp 2],m354,.pass⟩
theorem fnOk354:FnOk Tryz.prog 354 fn354:=fk Tryz.func354 g354.h
def g354_l0:Got ((loopsM m354).getD 0 .bad):=by
 refine⟨?m,?h⟩
 case h=>conv=>lhs;cbv
def m354_l0:M:=g354_l0.m
theorem u354_l0:UL m354_l0 g354_l0.m:=ul
def g355:Got (cmp 29 (kpL passing [] [[0],[0],[0,3],[0,3],[3]]) (bodyOf Tryz.f355)):=by
 refine⟨?m,?h⟩
 case h=>conv=>lhs;cbv
def m355:M:=g355.m
def fn355:MFn:=⟨29,[.tmp 2],m355,.pass⟩
theorem fnOk355:FnOk Tryz.prog 355 fn355:=fk Tryz.func355 g355.h
def g355_l0:Got ((loopsM m355).getD 0 .bad):=by
 refine⟨?m,?h⟩
 case h=>conv=>lhs;cbv
def m355_l0:M:=g355_l0.m
theorem u355_l0:UL m355_l0 g355_l0.m:=ul
def g356:Got (cmp 15 (kpL passing [] [[0,1],[0,1],[0,1]]) (bodyOf Tryz.f356)):=by
 refine⟨?m,?h⟩
 case h=>conv=>lhs;cbv
def m356:M:=g356.m
def fn356:MFn:=⟨15,[],m356,.pass⟩
theorem fnOk356:FnOk Tryz.prog 356 fn356:=fk Tryz.func356 g356.h
def g356_l0:Got ((loopsM m356).getD 0 .bad):=by
 refine⟨?m,?h⟩
 case h=>conv=>lhs;cbv
def m356_l0:M:=g356_l0.m
theorem u356_l0:UL m356_l0 g356_l0.m:=ul
def g357:Got (cmp 35 (kpL passing [] [[0],[0],[0],[0],[0],[0],[0],[0]]) (bodyOf Tryz.f357)):=by
 refine⟨?m,?h⟩
 case h=>conv=>lhs;cbv
def m357:M:=g357.m
def fn357:MFn:=⟨35,[.tmp 2],m357,.shut⟩
theorem fnOk357:FnOk Tryz.prog 357 fn357:=fk Tryz.func357 g357.h
def glList:List (Nat×List Value):=[(9,[.int .u8 0,.int .u8 1,.int .u8 56,.int .u8 2,.int .u8 57,.int .u8 49,.int .u8 28,.int .u8 3,.int .u8 61,.int .u8 58,.int .u8 42,.int .u8 50,.int .u8 38,.int .u8 29,.int .u8 17,.int .u8 4,.int .u8 62,.int .u8 47,.int .u8 59,.int .u8 36,.int .u8 45,.int .u8 43,.int .u8 51,.int .u8 22,.int .u8 53,.int .u8 39,.int .u8 33,.int .u8 30,.int .u8 24,.int .u8 18,.int .u8 12,.int .u8 5,.int .u8 63,.int .u8 55,.int .u8 48,.int .u8 27,.int .u8 60,.int .u8 41,.int .u8 37,.int .u8 16,.int .u8 46,.int .u8 35,.int .u8 44,.int .u8 21,.int .u8 52,.int .u8 32,.int .u8 23,.int .u8 11,.int .u8 54,.int .u8 26,.int .u8 40,.int .u8 15,.int .u8 34,.int .u8 20,.int .u8 31,.int .u8 10,.int .u8 25,.int .u8 14,.int .u8 19,.int .u8 9,.int .u8 13,.int .u8 8,.int .u8 7,.int .u8 6]),(0,[.int .i64 4,.int .i64 2,.int .i64 4,.int .i64 4,.int .i64 4]),(4,[.int .u8 0,.int .u8 35,.int .u8 38,.int .u8 29,.int .u8 7,.int .u8 7,.int .u8 15,.int .u8 32,.int .u8 92]),(2,[.int .u8 0,.int .u8 1,.int .u8 1,.int .u8 1,.int .u8 3,.int .u8 3,.int .u8 2,.int .u8 2,.int .u8 2,.int .u8 2,.int .u8 3,.int .u8 3,.int .u8 3])]
def tyTree:BT Ty:=(.node 125 ty125 (.node 52 ty52 (.node 34 ty34 (.node 23 ty23 (.node 5 ty5 (.node 3 ty3 (.node 1 ty1 .nil .nil) (.node 4 ty4 .nil .nil)) (.node 20 ty20 (.node 9 ty9 .nil .nil) (.node 22 ty22 .nil .nil))) (.node 29 ty29 (.node 25 ty25 (.node 24 ty24 .nil .nil) (.node 27 ty27 .nil .nil)) (.node 33 ty33 (.node 31 ty31 .nil .nil) .nil))) (.node 44 ty44 (.node 39 ty39 (.node 37 ty37 (.node 36 ty36 .nil .nil) (.node 38 ty38 .nil .nil)) (.node 42 ty42 (.node 40 ty40 .nil .nil) .nil)) (.node 48 ty48 (.node 46 ty46 (.node 45 ty45 .nil .nil) (.node 47 ty47 .nil .nil)) (.node 51 ty51 (.node 50 ty50 .nil .nil) .nil)))) (.node 95 ty95 (.node 63 ty63 (.node 58 ty58 (.node 55 ty55 (.node 54 ty54 .nil .nil) (.node 56 ty56 .nil .nil)) (.node 62 ty62 (.node 60 ty60 .nil .nil) .nil)) (.node 75 ty75 (.node 68 ty68 (.node 65 ty65 .nil .nil) (.node 69 ty69 .nil .nil)) (.node 93 ty93 (.node 91 ty91 .nil .nil) .nil))) (.node 114 ty114 (.node 101 ty101 (.node 97 ty97 (.node 96 ty96 .nil .nil) (.node 99 ty99 .nil .nil)) (.node 112 ty112 (.node 107 ty107 .nil .nil) .nil)) (.node 119 ty119 (.node 116 ty116 (.node 115 ty115 .nil .nil) (.node 118 ty118 .nil .nil)) (.node 123 ty123 (.node 121 ty121 .nil .nil) .nil))))) (.node 328 ty328 (.node 253 ty253 (.node 179 ty179 (.node 169 ty169 (.node 163 ty163 (.node 127 ty127 .nil .nil) (.node 167 ty167 .nil .nil)) (.node 172 ty172 (.node 171 ty171 .nil .nil) (.node 177 ty177 .nil .nil))) (.node 199 ty199 (.node 185 ty185 (.node 181 ty181 .nil .nil) (.node 189 ty189 .nil .nil)) (.node 240 ty240 (.node 211 ty211 .nil .nil) .nil))) (.node 299 ty299 (.node 285 ty285 (.node 282 ty282 (.node 254 ty254 .nil .nil) (.node 283 ty283 .nil .nil)) (.node 296 ty296 (.node 286 ty286 .nil .nil) .nil)) (.node 320 ty320 (.node 316 ty316 (.node 309 ty309 .nil .nil) (.node 318 ty318 .nil .nil)) (.node 325 ty325 (.node 323 ty323 .nil .nil) .nil)))) (.node 364 ty364 (.node 351 ty351 (.node 340 ty340 (.node 332 ty332 (.node 329 ty329 .nil .nil) (.node 335 ty335 .nil .nil)) (.node 344 ty344 (.node 342 ty342 .nil .nil) .nil)) (.node 359 ty359 (.node 355 ty355 (.node 352 ty352 .nil .nil) (.node 358 ty358 .nil .nil)) (.node 362 ty362 (.node 360 ty360 .nil .nil) .nil))) (.node 400 ty400 (.node 374 ty374 (.node 371 ty371 (.node 369 ty369 .nil .nil) (.node 372 ty372 .nil .nil)) (.node 393 ty393 (.node 376 ty376 .nil .nil) .nil)) (.node 433 ty433 (.node 428 ty428 (.node 405 ty405 .nil .nil) (.node 430 ty430 .nil .nil)) (.node 447 ty447 (.node 444 ty444 .nil .nil) .nil))))))
def fnTree:BT MFn:=(.node 184 fn184 (.node 109 fn109 (.node 58 fn58 (.node 29 fn29 (.node 13 fn13 (.node 9 fn9 (.node 7 fn7 (.node 6 fn6 (.node 3 fn3 .nil .nil) .nil) (.node 8 fn8 .nil .nil)) (.node 11 fn11 (.node 10 fn10 .nil .nil) (.node 12 fn12 .nil .nil))) (.node 25 fn25 (.node 19 fn19 (.node 17 fn17 .nil .nil) (.node 24 fn24 .nil .nil)) (.node 27 fn27 (.node 26 fn26 .nil .nil) (.node 28 fn28 .nil .nil)))) (.node 42 fn42 (.node 33 fn33 (.node 31 fn31 (.node 30 fn30 .nil .nil) (.node 32 fn32 .nil .nil)) (.node 35 fn35 (.node 34 fn34 .nil .nil) (.node 36 fn36 .nil .nil))) (.node 46 fn46 (.node 44 fn44 (.node 43 fn43 .nil .nil) (.node 45 fn45 .nil .nil)) (.node 56 fn56 (.node 47 fn47 .nil .nil) (.node 57 fn57 .nil .nil))))) (.node 74 fn74 (.node 66 fn66 (.node 62 fn62 (.node 60 fn60 (.node 59 fn59 .nil .nil) (.node 61 fn61 .nil .nil)) (.node 64 fn64 (.node 63 fn63 .nil .nil) (.node 65 fn65 .nil .nil))) (.node 70 fn70 (.node 68 fn68 (.node 67 fn67 .nil .nil) (.node 69 fn69 .nil .nil)) (.node 72 fn72 (.node 71 fn71 .nil .nil) (.node 73 fn73 .nil .nil)))) (.node 101 fn101 (.node 82 fn82 (.node 80 fn80 (.node 75 fn75 .nil .nil) (.node 81 fn81 .nil .nil)) (.node 84 fn84 (.node 83 fn83 .nil .nil) (.node 85 fn85 .nil .nil))) (.node 105 fn105 (.node 103 fn103 (.node 102 fn102 .nil .nil) (.node 104 fn104 .nil .nil)) (.node 107 fn107 (.node 106 fn106 .nil .nil) (.node 108 fn108 .nil .nil)))))) (.node 141 fn141 (.node 125 fn125 (.node 117 fn117 (.node 113 fn113 (.node 111 fn111 (.node 110 fn110 .nil .nil) (.node 112 fn112 .nil .nil)) (.node 115 fn115 (.node 114 fn114 .nil .nil) (.node 116 fn116 .nil .nil))) (.node 121 fn121 (.node 119 fn119 (.node 118 fn118 .nil .nil) (.node 120 fn120 .nil .nil)) (.node 123 fn123 (.node 122 fn122 .nil .nil) (.node 124 fn124 .nil .nil)))) (.node 133 fn133 (.node 129 fn129 (.node 127 fn127 (.node 126 fn126 .nil .nil) (.node 128 fn128 .nil .nil)) (.node 131 fn131 (.node 130 fn130 .nil .nil) (.node 132 fn132 .nil .nil))) (.node 137 fn137 (.node 135 fn135 (.node 134 fn134 .nil .nil) (.node 136 fn136 .nil .nil)) (.node 139 fn139 (.node 138 fn138 .nil .nil) (.node 140 fn140 .nil .nil))))) (.node 168 fn168 (.node 154 fn154 (.node 147 fn147 (.node 143 fn143 (.node 142 fn142 .nil .nil) (.node 144 fn144 .nil .nil)) (.node 149 fn149 (.node 148 fn148 .nil .nil) (.node 150 fn150 .nil .nil))) (.node 164 fn164 (.node 162 fn162 (.node 161 fn161 .nil .nil) (.node 163 fn163 .nil .nil)) (.node 166 fn166 (.node 165 fn165 .nil .nil) (.node 167 fn167 .nil .nil)))) (.node 176 fn176 (.node 172 fn172 (.node 170 fn170 (.node 169 fn169 .nil .nil) (.node 171 fn171 .nil .nil)) (.node 174 fn174 (.node 173 fn173 .nil .nil) (.node 175 fn175 .nil .nil))) (.node 180 fn180 (.node 178 fn178 (.node 177 fn177 .nil .nil) (.node 179 fn179 .nil .nil)) (.node 182 fn182 (.node 181 fn181 .nil .nil) (.node 183 fn183 .nil .nil))))))) (.node 261 fn261 (.node 229 fn229 (.node 201 fn201 (.node 193 fn193 (.node 189 fn189 (.node 187 fn187 (.node 186 fn186 (.node 185 fn185 .nil .nil) .nil) (.node 188 fn188 .nil .nil)) (.node 191 fn191 (.node 190 fn190 .nil .nil) (.node 192 fn192 .nil .nil))) (.node 197 fn197 (.node 195 fn195 (.node 194 fn194 .nil .nil) (.node 196 fn196 .nil .nil)) (.node 199 fn199 (.node 198 fn198 .nil .nil) (.node 200 fn200 .nil .nil)))) (.node 220 fn220 (.node 205 fn205 (.node 203 fn203 (.node 202 fn202 .nil .nil) (.node 204 fn204 .nil .nil)) (.node 218 fn218 (.node 217 fn217 .nil .nil) (.node 219 fn219 .nil .nil))) (.node 224 fn224 (.node 222 fn222 (.node 221 fn221 .nil .nil) (.node 223 fn223 .nil .nil)) (.node 227 fn227 (.node 226 fn226 .nil .nil) (.node 228 fn228 .nil .nil))))) (.node 245 fn245 (.node 237 fn237 (.node 233 fn233 (.node 231 fn231 (.node 230 fn230 .nil .nil) (.node 232 fn232 .nil .nil)) (.node 235 fn235 (.node 234 fn234 .nil .nil) (.node 236 fn236 .nil .nil))) (.node 241 fn241 (.node 239 fn239 (.node 238 fn238 .nil .nil) (.node 240 fn240 .nil .nil)) (.node 243 fn243 (.node 242 fn242 .nil .nil) (.node 244 fn244 .nil .nil)))) (.node 253 fn253 (.node 249 fn249 (.node 247 fn247 (.node 246 fn246 .nil .nil) (.node 248 fn248 .nil .nil)) (.node 251 fn251 (.node 250 fn250 .nil .nil) (.node 252 fn252 .nil .nil))) (.node 257 fn257 (.node 255 fn255 (.node 254 fn254 .nil .nil) (.node 256 fn256 .nil .nil)) (.node 259 fn259 (.node 258 fn258 .nil .nil) (.node 260 fn260 .nil .nil)))))) (.node 311 fn311 (.node 295 fn295 (.node 287 fn287 (.node 265 fn265 (.node 263 fn263 (.node 262 fn262 .nil .nil) (.node 264 fn264 .nil .nil)) (.node 285 fn285 (.node 284 fn284 .nil .nil) (.node 286 fn286 .nil .nil))) (.node 291 fn291 (.node 289 fn289 (.node 288 fn288 .nil .nil) (.node 290 fn290 .nil .nil)) (.node 293 fn293 (.node 292 fn292 .nil .nil) (.node 294 fn294 .nil .nil)))) (.node 303 fn303 (.node 299 fn299 (.node 297 fn297 (.node 296 fn296 .nil .nil) (.node 298 fn298 .nil .nil)) (.node 301 fn301 (.node 300 fn300 .nil .nil) (.node 302 fn302 .nil .nil))) (.node 307 fn307 (.node 305 fn305 (.node 304 fn304 .nil .nil) (.node 306 fn306 .nil .nil)) (.node 309 fn309 (.node 308 fn308 .nil .nil) (.node 310 fn310 .nil .nil))))) (.node 340 fn340 (.node 332 fn332 (.node 315 fn315 (.node 313 fn313 (.node 312 fn312 .nil .nil) (.node 314 fn314 .nil .nil)) (.node 330 fn330 (.node 316 fn316 .nil .nil) (.node 331 fn331 .nil .nil))) (.node 336 fn336 (.node 334 fn334 (.node 333 fn333 .nil .nil) (.node 335 fn335 .nil .nil)) (.node 338 fn338 (.node 337 fn337 .nil .nil) (.node 339 fn339 .nil .nil)))) (.node 350 fn350 (.node 344 fn344 (.node 342 fn342 (.node 341 fn341 .nil .nil) (.node 343 fn343 .nil .nil)) (.node 348 fn348 (.node 346 fn346 .nil .nil) (.node 349 fn349 .nil .nil))) (.node 354 fn354 (.node 352 fn352 (.node 351 fn351 .nil .nil) (.node 353 fn353 .nil .nil)) (.node 356 fn356 (.node 355 fn355 .nil .nil) (.node 357 fn357 .nil .nil))))))))
def Cz:Ctx:=⟨⟨tyTree.get,⟨lookL glList,lkOf,ifs34⟩⟩,fnTree.get,xLibs,xOut0⟩
theorem CzOk:CtxOk Tryz.prog Cz:=ctxOk_of (by kernel_rfl) ⟨tyOk125,⟨tyOk52,⟨tyOk34,⟨tyOk23,⟨tyOk5,⟨tyOk3,⟨tyOk1,trivial,trivial⟩,⟨tyOk4,trivial,trivial⟩⟩,⟨tyOk20,⟨tyOk9,trivial,trivial⟩,⟨tyOk22,trivial,trivial⟩⟩⟩,⟨tyOk29,⟨tyOk25,⟨tyOk24,trivial,trivial⟩,⟨tyOk27,trivial,trivial⟩⟩,⟨tyOk33,⟨tyOk31,trivial,trivial⟩,trivial⟩⟩⟩,⟨tyOk44,⟨tyOk39,⟨tyOk37,⟨tyOk36,trivial,trivial⟩,⟨tyOk38,trivial,trivial⟩⟩,⟨tyOk42,⟨tyOk40,trivial,trivial⟩,trivial⟩⟩,⟨tyOk48,⟨tyOk46,⟨tyOk45,trivial,trivial⟩,⟨tyOk47,trivial,trivial⟩⟩,⟨tyOk51,⟨tyOk50,trivial,trivial⟩,trivial⟩⟩⟩⟩,⟨tyOk95,⟨tyOk63,⟨tyOk58,⟨tyOk55,⟨tyOk54,trivial,trivial⟩,⟨tyOk56,trivial,trivial⟩⟩,⟨tyOk62,⟨tyOk60,trivial,trivial⟩,trivial⟩⟩,⟨tyOk75,⟨tyOk68,⟨tyOk65,trivial,trivial⟩,⟨tyOk69,trivial,trivial⟩⟩,⟨tyOk93,⟨tyOk91,trivial,trivial⟩,trivial⟩⟩⟩,⟨tyOk114,⟨tyOk101,⟨tyOk97,⟨tyOk96,trivial,trivial⟩,⟨tyOk99,trivial,trivial⟩⟩,⟨tyOk112,⟨tyOk107,trivial,trivial⟩,trivial⟩⟩,⟨tyOk119,⟨tyOk116,⟨tyOk115,trivial,trivial⟩,⟨tyOk118,trivial,trivial⟩⟩,⟨tyOk123,⟨tyOk121,trivial,trivial⟩,trivial⟩⟩⟩⟩⟩,⟨tyOk328,⟨tyOk253,⟨tyOk179,⟨tyOk169,⟨tyOk163,⟨tyOk127,trivial,trivial⟩,⟨tyOk167,trivial,trivial⟩⟩,⟨tyOk172,⟨tyOk171,trivial,trivial⟩,⟨tyOk177,trivial,trivial⟩⟩⟩,⟨tyOk199,⟨tyOk185,⟨tyOk181,trivial,trivial⟩,⟨tyOk189,trivial,trivial⟩⟩,⟨tyOk240,⟨tyOk211,trivial,trivial⟩,trivial⟩⟩⟩,⟨tyOk299,⟨tyOk285,⟨tyOk282,⟨tyOk254,trivial,trivial⟩,⟨tyOk283,trivial,trivial⟩⟩,⟨tyOk296,⟨tyOk286,trivial,trivial⟩,trivial⟩⟩,⟨tyOk320,⟨tyOk316,⟨tyOk309,trivial,trivial⟩,⟨tyOk318,trivial,trivial⟩⟩,⟨tyOk325,⟨tyOk323,trivial,trivial⟩,trivial⟩⟩⟩⟩,⟨tyOk364,⟨tyOk351,⟨tyOk340,⟨tyOk332,⟨tyOk329,trivial,trivial⟩,⟨tyOk335,trivial,trivial⟩⟩,⟨tyOk344,⟨tyOk342,trivial,trivial⟩,trivial⟩⟩,⟨tyOk359,⟨tyOk355,⟨tyOk352,trivial,trivial⟩,⟨tyOk358,trivial,trivial⟩⟩,⟨tyOk362,⟨tyOk360,trivial,trivial⟩,trivial⟩⟩⟩,⟨tyOk400,⟨tyOk374,⟨tyOk371,⟨tyOk369,trivial,trivial⟩,⟨tyOk372,trivial,trivial⟩⟩,⟨tyOk393,⟨tyOk376,trivial,trivial⟩,trivial⟩⟩,⟨tyOk433,⟨tyOk428,⟨tyOk405,trivial,trivial⟩,⟨tyOk430,trivial,trivial⟩⟩,⟨tyOk447,⟨tyOk444,trivial,trivial⟩,trivial⟩⟩⟩⟩⟩⟩ ⟨fnOk184,⟨fnOk109,⟨fnOk58,⟨fnOk29,⟨fnOk13,⟨fnOk9,⟨fnOk7,⟨fnOk6,⟨fnOk3,trivial,trivial⟩,trivial⟩,⟨fnOk8,trivial,trivial⟩⟩,⟨fnOk11,⟨fnOk10,trivial,trivial⟩,⟨fnOk12,trivial,trivial⟩⟩⟩,⟨fnOk25,⟨fnOk19,⟨fnOk17,trivial,trivial⟩,⟨fnOk24,trivial,trivial⟩⟩,⟨fnOk27,⟨fnOk26,trivial,trivial⟩,⟨fnOk28,trivial,trivial⟩⟩⟩⟩,⟨fnOk42,⟨fnOk33,⟨fnOk31,⟨fnOk30,trivial,trivial⟩,⟨fnOk32,trivial,trivial⟩⟩,⟨fnOk35,⟨fnOk34,trivial,trivial⟩,⟨fnOk36,trivial,trivial⟩⟩⟩,⟨fnOk46,⟨fnOk44,⟨fnOk43,trivial,trivial⟩,⟨fnOk45,trivial,trivial⟩⟩,⟨fnOk56,⟨fnOk47,trivial,trivial⟩,⟨fnOk57,trivial,trivial⟩⟩⟩⟩⟩,⟨fnOk74,⟨fnOk66,⟨fnOk62,⟨fnOk60,⟨fnOk59,trivial,trivial⟩,⟨fnOk61,trivial,trivial⟩⟩,⟨fnOk64,⟨fnOk63,trivial,trivial⟩,⟨fnOk65,trivial,trivial⟩⟩⟩,⟨fnOk70,⟨fnOk68,⟨fnOk67,trivial,trivial⟩,⟨fnOk69,trivial,trivial⟩⟩,⟨fnOk72,⟨fnOk71,trivial,trivial⟩,⟨fnOk73,trivial,trivial⟩⟩⟩⟩,⟨fnOk101,⟨fnOk82,⟨fnOk80,⟨fnOk75,trivial,trivial⟩,⟨fnOk81,trivial,trivial⟩⟩,⟨fnOk84,⟨fnOk83,trivial,trivial⟩,⟨fnOk85,trivial,trivial⟩⟩⟩,⟨fnOk105,⟨fnOk103,⟨fnOk102,trivial,trivial⟩,⟨fnOk104,trivial,trivial⟩⟩,⟨fnOk107,⟨fnOk106,trivial,trivial⟩,⟨fnOk108,trivial,trivial⟩⟩⟩⟩⟩⟩,⟨fnOk141,⟨fnOk125,⟨fnOk117,⟨fnOk113,⟨fnOk111,⟨fnOk110,trivial,trivial⟩,⟨fnOk112,trivial,trivial⟩⟩,⟨fnOk115,⟨fnOk114,trivial,trivial⟩,⟨fnOk116,trivial,trivial⟩⟩⟩,⟨fnOk121,⟨fnOk119,⟨fnOk118,trivial,trivial⟩,⟨fnOk120,trivial,trivial⟩⟩,⟨fnOk123,⟨fnOk122,trivial,trivial⟩,⟨fnOk124,trivial,trivial⟩⟩⟩⟩,⟨fnOk133,⟨fnOk129,⟨fnOk127,⟨fnOk126,trivial,trivial⟩,⟨fnOk128,trivial,trivial⟩⟩,⟨fnOk131,⟨fnOk130,trivial,trivial⟩,⟨fnOk132,trivial,trivial⟩⟩⟩,⟨fnOk137,⟨fnOk135,⟨fnOk134,trivial,trivial⟩,⟨fnOk136,trivial,trivial⟩⟩,⟨fnOk139,⟨fnOk138,trivial,trivial⟩,⟨fnOk140,trivial,trivial⟩⟩⟩⟩⟩,⟨fnOk168,⟨fnOk154,⟨fnOk147,⟨fnOk143,⟨fnOk142,trivial,trivial⟩,⟨fnOk144,trivial,trivial⟩⟩,⟨fnOk149,⟨fnOk148,trivial,trivial⟩,⟨fnOk150,trivial,trivial⟩⟩⟩,⟨fnOk164,⟨fnOk162,⟨fnOk161,trivial,trivial⟩,⟨fnOk163,trivial,trivial⟩⟩,⟨fnOk166,⟨fnOk165,trivial,trivial⟩,⟨fnOk167,trivial,trivial⟩⟩⟩⟩,⟨fnOk176,⟨fnOk172,⟨fnOk170,⟨fnOk169,trivial,trivial⟩,⟨fnOk171,trivial,trivial⟩⟩,⟨fnOk174,⟨fnOk173,trivial,trivial⟩,⟨fnOk175,trivial,trivial⟩⟩⟩,⟨fnOk180,⟨fnOk178,⟨fnOk177,trivial,trivial⟩,⟨fnOk179,trivial,trivial⟩⟩,⟨fnOk182,⟨fnOk181,trivial,trivial⟩,⟨fnOk183,trivial,trivial⟩⟩⟩⟩⟩⟩⟩,⟨fnOk261,⟨fnOk229,⟨fnOk201,⟨fnOk193,⟨fnOk189,⟨fnOk187,⟨fnOk186,⟨fnOk185,trivial,trivial⟩,trivial⟩,⟨fnOk188,trivial,trivial⟩⟩,⟨fnOk191,⟨fnOk190,trivial,trivial⟩,⟨fnOk192,trivial,trivial⟩⟩⟩,⟨fnOk197,⟨fnOk195,⟨fnOk194,trivial,trivial⟩,⟨fnOk196,trivial,trivial⟩⟩,⟨fnOk199,⟨fnOk198,trivial,trivial⟩,⟨fnOk200,trivial,trivial⟩⟩⟩⟩,⟨fnOk220,⟨fnOk205,⟨fnOk203,⟨fnOk202,trivial,trivial⟩,⟨fnOk204,trivial,trivial⟩⟩,⟨fnOk218,⟨fnOk217,trivial,trivial⟩,⟨fnOk219,trivial,trivial⟩⟩⟩,⟨fnOk224,⟨fnOk222,⟨fnOk221,trivial,trivial⟩,⟨fnOk223,trivial,trivial⟩⟩,⟨fnOk227,⟨fnOk226,trivial,trivial⟩,⟨fnOk228,trivial,trivial⟩⟩⟩⟩⟩,⟨fnOk245,⟨fnOk237,⟨fnOk233,⟨fnOk231,⟨fnOk230,trivial,trivial⟩,⟨fnOk232,trivial,trivial⟩⟩,⟨fnOk235,⟨fnOk234,trivial,trivial⟩,⟨fnOk236,trivial,trivial⟩⟩⟩,⟨fnOk241,⟨fnOk239,⟨fnOk238,trivial,trivial⟩,⟨fnOk240,trivial,trivial⟩⟩,⟨fnOk243,⟨fnOk242,trivial,trivial⟩,⟨fnOk244,trivial,trivial⟩⟩⟩⟩,⟨fnOk253,⟨fnOk249,⟨fnOk247,⟨fnOk246,trivial,trivial⟩,⟨fnOk248,trivial,trivial⟩⟩,⟨fnOk251,⟨fnOk250,trivial,trivial⟩,⟨fnOk252,trivial,trivial⟩⟩⟩,⟨fnOk257,⟨fnOk255,⟨fnOk254,trivial,trivial⟩,⟨fnOk256,trivial,trivial⟩⟩,⟨fnOk259,⟨fnOk258,trivial,trivial⟩,⟨fnOk260,trivial,trivial⟩⟩⟩⟩⟩⟩,⟨fnOk311,⟨fnOk295,⟨fnOk287,⟨fnOk265,⟨fnOk263,⟨fnOk262,trivial,trivial⟩,⟨fnOk264,trivial,trivial⟩⟩,⟨fnOk285,⟨fnOk284,trivial,trivial⟩,⟨fnOk286,trivial,trivial⟩⟩⟩,⟨fnOk291,⟨fnOk289,⟨fnOk288,trivial,trivial⟩,⟨fnOk290,trivial,trivial⟩⟩,⟨fnOk293,⟨fnOk292,trivial,trivial⟩,⟨fnOk294,trivial,trivial⟩⟩⟩⟩,⟨fnOk303,⟨fnOk299,⟨fnOk297,⟨fnOk296,trivial,trivial⟩,⟨fnOk298,trivial,trivial⟩⟩,⟨fnOk301,⟨fnOk300,trivial,trivial⟩,⟨fnOk302,trivial,trivial⟩⟩⟩,⟨fnOk307,⟨fnOk305,⟨fnOk304,trivial,trivial⟩,⟨fnOk306,trivial,trivial⟩⟩,⟨fnOk309,⟨fnOk308,trivial,trivial⟩,⟨fnOk310,trivial,trivial⟩⟩⟩⟩⟩,⟨fnOk340,⟨fnOk332,⟨fnOk315,⟨fnOk313,⟨fnOk312,trivial,trivial⟩,⟨fnOk314,trivial,trivial⟩⟩,⟨fnOk330,⟨fnOk316,trivial,trivial⟩,⟨fnOk331,trivial,trivial⟩⟩⟩,⟨fnOk336,⟨fnOk334,⟨fnOk333,trivial,trivial⟩,⟨fnOk335,trivial,trivial⟩⟩,⟨fnOk338,⟨fnOk337,trivial,trivial⟩,⟨fnOk339,trivial,trivial⟩⟩⟩⟩,⟨fnOk350,⟨fnOk344,⟨fnOk342,⟨fnOk341,trivial,trivial⟩,⟨fnOk343,trivial,trivial⟩⟩,⟨fnOk348,⟨fnOk346,trivial,trivial⟩,⟨fnOk349,trivial,trivial⟩⟩⟩,⟨fnOk354,⟨fnOk352,⟨fnOk351,trivial,trivial⟩,⟨fnOk353,trivial,trivial⟩⟩,⟨fnOk356,⟨fnOk355,trivial,trivial⟩,⟨fnOk357,trivial,trivial⟩⟩⟩⟩⟩⟩⟩⟩ xLibs_ok (xOut0_ok)
theorem CzB73:Cz.B 73=some fn73:=by rfl
theorem CzB75:Cz.B 75=some fn75:=by rfl
theorem CzT56:Cz.T 56=some ty56:=by rfl
theorem CzT60:Cz.T 60=some ty60:=by rfl
theorem CzT97:Cz.T 97=some ty97:=by rfl
theorem CzT189:Cz.T 189=some ty189:=by rfl
def cloneF(f:FuncId):Bool:=Nat.beq f 73||Nat.beq f 75
def xLibC(f:FuncId)(zs:List A):Option A:=bif cloneF f then(match zs with
 |[.sl 0 []]=>some (.sl 0 [])
 |_=>none)else xLibs f zs
theorem clone_none(f:FuncId)(hf:cloneF f=true)(c:Nat):EvQ Cz f [.v (.slice none 0 c)] (.sl 0 []):=by
 simp only[cloneF,Bool.or_eq_true]at hf
 rcases hf with h|h
 ·obtain rfl:=Nat.eq_of_beq_eq_true h
  refine evQ_of CzB73 rfl (by simp[fn73]) ?_
  simp(disch:=omega)only[go_sem,simprocAttr,CzT97,ty97,nilEq,sameA,fn73,m73,g73]
 ·obtain rfl:=Nat.eq_of_beq_eq_true h
  refine evQ_of CzB75 rfl (by simp[fn75]) ?_
  simp(disch:=omega)only[go_sem,simprocAttr,CzT56,ty56,nilEq,sameA,fn75,m75,g75]
theorem clone_some(f:FuncId)(hf:cloneF f=true)(a:Addr)(c:Nat):EvQ Cz f [.v (.slice (some a) 0 c)] (.sl 0 []):=by
 simp only[cloneF,Bool.or_eq_true]at hf
 rcases hf with h|h
 ·obtain rfl:=Nat.eq_of_beq_eq_true h
  refine evQ_of CzB73 rfl (by simp[fn73]) ?_
  simp(disch:=omega)only[go_sem,simprocAttr,CzT97,ty97,CzT189,ty189,nilEq,sameA,fn73,m73,g73]
 ·obtain rfl:=Nat.eq_of_beq_eq_true h
  refine evQ_of CzB75 rfl (by simp[fn75]) ?_
  simp(disch:=omega)only[go_sem,simprocAttr,CzT56,ty56,CzT60,ty60,nilEq,sameA,fn75,m75,g75]
theorem xLibC_ok:QOk Cz.T Tryz.prog xLibC:=by
 intro f zs r h
 unfold xLibC at h
 cases hb:cloneF f with
 |false =>
  rw[hb,cond_false]at h
  exact CzOk.ext f zs r h
 |true =>
  rw[hb,cond_true]at h
  split at h
  ·simp only[Option.some.injEq]at h
   subst h
   have hent:Enters Tryz.prog f:=by
    simp only[cloneF,Bool.or_eq_true]at hb
    rcases hb with h|h
    ·obtain rfl:=Nat.eq_of_beq_eq_true h
     exact CzOk.enters CzB73
    ·obtain rfl:=Nat.eq_of_beq_eq_true h
     exact CzOk.enters CzB75
   refine .inr ⟨hent,fun own w ys ho hgl hr=>?_⟩
   obtain⟨y,ys',rfl,hy,hn⟩:∃ y ys',ys=y::ys'∧R [] own w (.sl 0 []) y∧RL [] own w [] ys':=by
    rw[RL]at hr
    obtain⟨y,ys',e,h1,h2⟩:=hr
    exact⟨y,ys',e,h1,h2⟩
   have key:∀ a c,y=.slice a 0 c→EvQ Cz f [.v (.slice a 0 c)] (.sl 0 []):=fun a c _=>by
    cases a with
    |none=>exact clone_none f hb c
    |some a=>exact clone_some f hb a c
   have fin:∀ a c,y=.slice a 0 c→Go.Calls Tryz.prog f (y::ys').toArray w fun e w'=>∃ v,e=.returned v∧Grow w w'∧R [] own w' (.sl 0 []) v:=fun a c e=>by
    subst e
    obtain⟨N,hN⟩:=key a c rfl
    rcases(call_sound CzOk N).1 f _ _ hN with h|⟨-,h⟩
    ·obtain⟨v,h1,-⟩:=h [] own w _ (RL.cons (by rw[R]) hn)
     rw[hent]at h1
     simp at h1
    ·exact h own w _ ho hgl (RL.cons (by rw[R]) hn)
   rw[R]at hy
   rcases hy with⟨-,-,a,c,rfl⟩|⟨g,off,cap,xs,rfl,h0,-⟩
   ·exact fin _ _ rfl
   ·exact fin _ _ rfl
  ·cases h
def Cy:Ctx:=⟨Cz.T,Cz.B,xLibC,Cz.XO⟩
theorem CyOk:CtxOk Tryz.prog Cy:=⟨CzOk.mixed,CzOk.types,CzOk.loops,CzOk.fns,xLibC_ok,CzOk.extO⟩
noncomputable def xOutA(f:FuncId):Option (List A→Heap→Option (A×Heap)):=bif Nat.beq f 225 then some (agreesW Cy)else xOut0 f
theorem xOutA_ok:∀ f g zs H x H',xOutA f=some g→g zs H=some (x,H')→FnOut Cy.T Tryz.prog f zs H x H':=by
 intro f g zs H x H' hg h
 unfold xOutA at hg
 cases h1:Nat.beq f 225 with
 |true =>
 obtain rfl:=Nat.eq_of_beq_eq_true h1
 rw[h1,cond_true]at hg
 obtain rfl:=Option.some.inj hg
 exact agrees_ok CyOk h
 |false =>
 rw[h1,cond_false]at hg
 exact CyOk.extO f g zs H x H' hg h
noncomputable def Cx:Ctx:=⟨Cy.T,Cy.B,Cy.X,xOutA⟩
theorem CxOk:CtxOk Tryz.prog Cx:=⟨CyOk.mixed,CyOk.types,CyOk.loops,CyOk.fns,CyOk.ext,xOutA_ok⟩
theorem CyB180:Cy.B 180=some fn180:=by rfl
theorem CyP180:isPass Cy 180=true:=by rfl
theorem CyB182:Cy.B 182=some fn182:=by rfl
theorem CyP182:isPass Cy 182=true:=by rfl
theorem CxT1:Cx.T 1=some ty1:=by rfl
theorem CxT3:Cx.T 3=some ty3:=by rfl
theorem CxT4:Cx.T 4=some ty4:=by rfl
theorem CxT5:Cx.T 5=some ty5:=by rfl
theorem CxT9:Cx.T 9=some ty9:=by rfl
theorem CxT20:Cx.T 20=some ty20:=by rfl
theorem CxT22:Cx.T 22=some ty22:=by rfl
theorem CxT23:Cx.T 23=some ty23:=by rfl
theorem CxT24:Cx.T 24=some ty24:=by rfl
theorem CxT25:Cx.T 25=some ty25:=by rfl
theorem CxT27:Cx.T 27=some ty27:=by rfl
theorem CxT29:Cx.T 29=some ty29:=by rfl
theorem CxT31:Cx.T 31=some ty31:=by rfl
theorem CxT33:Cx.T 33=some ty33:=by rfl
theorem CxT34:Cx.T 34=some ty34:=by rfl
theorem CxT36:Cx.T 36=some ty36:=by rfl
theorem CxT37:Cx.T 37=some ty37:=by rfl
theorem CxT38:Cx.T 38=some ty38:=by rfl
theorem CxT39:Cx.T 39=some ty39:=by rfl
theorem CxT40:Cx.T 40=some ty40:=by rfl
theorem CxT42:Cx.T 42=some ty42:=by rfl
theorem CxT44:Cx.T 44=some ty44:=by rfl
theorem CxT45:Cx.T 45=some ty45:=by rfl
theorem CxT46:Cx.T 46=some ty46:=by rfl
theorem CxT47:Cx.T 47=some ty47:=by rfl
theorem CxT48:Cx.T 48=some ty48:=by rfl
theorem CxT50:Cx.T 50=some ty50:=by rfl
theorem CxT51:Cx.T 51=some ty51:=by rfl
theorem CxT52:Cx.T 52=some ty52:=by rfl
theorem CxT54:Cx.T 54=some ty54:=by rfl
theorem CxT55:Cx.T 55=some ty55:=by rfl
theorem CxT56:Cx.T 56=some ty56:=by rfl
theorem CxT58:Cx.T 58=some ty58:=by rfl
theorem CxT60:Cx.T 60=some ty60:=by rfl
theorem CxT62:Cx.T 62=some ty62:=by rfl
theorem CxT63:Cx.T 63=some ty63:=by rfl
theorem CxT65:Cx.T 65=some ty65:=by rfl
theorem CxT68:Cx.T 68=some ty68:=by rfl
theorem CxT69:Cx.T 69=some ty69:=by rfl
theorem CxT75:Cx.T 75=some ty75:=by rfl
theorem CxT91:Cx.T 91=some ty91:=by rfl
theorem CxT93:Cx.T 93=some ty93:=by rfl
theorem CxT95:Cx.T 95=some ty95:=by rfl
theorem CxT96:Cx.T 96=some ty96:=by rfl
theorem CxT97:Cx.T 97=some ty97:=by rfl
theorem CxT99:Cx.T 99=some ty99:=by rfl
theorem CxT101:Cx.T 101=some ty101:=by rfl
theorem CxT107:Cx.T 107=some ty107:=by rfl
theorem CxT112:Cx.T 112=some ty112:=by rfl
theorem CxT114:Cx.T 114=some ty114:=by rfl
theorem CxT115:Cx.T 115=some ty115:=by rfl
theorem CxT116:Cx.T 116=some ty116:=by rfl
theorem CxT118:Cx.T 118=some ty118:=by rfl
theorem CxT119:Cx.T 119=some ty119:=by rfl
theorem CxT121:Cx.T 121=some ty121:=by rfl
theorem CxT123:Cx.T 123=some ty123:=by rfl
theorem CxT125:Cx.T 125=some ty125:=by rfl
theorem CxT127:Cx.T 127=some ty127:=by rfl
theorem CxT163:Cx.T 163=some ty163:=by rfl
theorem CxT167:Cx.T 167=some ty167:=by rfl
theorem CxT169:Cx.T 169=some ty169:=by rfl
theorem CxT171:Cx.T 171=some ty171:=by rfl
theorem CxT172:Cx.T 172=some ty172:=by rfl
theorem CxT177:Cx.T 177=some ty177:=by rfl
theorem CxT179:Cx.T 179=some ty179:=by rfl
theorem CxT181:Cx.T 181=some ty181:=by rfl
theorem CxT185:Cx.T 185=some ty185:=by rfl
theorem CxT189:Cx.T 189=some ty189:=by rfl
theorem CxT199:Cx.T 199=some ty199:=by rfl
theorem CxT211:Cx.T 211=some ty211:=by rfl
theorem CxT240:Cx.T 240=some ty240:=by rfl
theorem CxT253:Cx.T 253=some ty253:=by rfl
theorem CxT254:Cx.T 254=some ty254:=by rfl
theorem CxT282:Cx.T 282=some ty282:=by rfl
theorem CxT283:Cx.T 283=some ty283:=by rfl
theorem CxT285:Cx.T 285=some ty285:=by rfl
theorem CxT286:Cx.T 286=some ty286:=by rfl
theorem CxT296:Cx.T 296=some ty296:=by rfl
theorem CxT299:Cx.T 299=some ty299:=by rfl
theorem CxT309:Cx.T 309=some ty309:=by rfl
theorem CxT316:Cx.T 316=some ty316:=by rfl
theorem CxT318:Cx.T 318=some ty318:=by rfl
theorem CxT320:Cx.T 320=some ty320:=by rfl
theorem CxT323:Cx.T 323=some ty323:=by rfl
theorem CxT325:Cx.T 325=some ty325:=by rfl
theorem CxT328:Cx.T 328=some ty328:=by rfl
theorem CxT329:Cx.T 329=some ty329:=by rfl
theorem CxT332:Cx.T 332=some ty332:=by rfl
theorem CxT335:Cx.T 335=some ty335:=by rfl
theorem CxT340:Cx.T 340=some ty340:=by rfl
theorem CxT342:Cx.T 342=some ty342:=by rfl
theorem CxT344:Cx.T 344=some ty344:=by rfl
theorem CxT351:Cx.T 351=some ty351:=by rfl
theorem CxT352:Cx.T 352=some ty352:=by rfl
theorem CxT355:Cx.T 355=some ty355:=by rfl
theorem CxT358:Cx.T 358=some ty358:=by rfl
theorem CxT359:Cx.T 359=some ty359:=by rfl
theorem CxT360:Cx.T 360=some ty360:=by rfl
theorem CxT362:Cx.T 362=some ty362:=by rfl
theorem CxT364:Cx.T 364=some ty364:=by rfl
theorem CxT369:Cx.T 369=some ty369:=by rfl
theorem CxT371:Cx.T 371=some ty371:=by rfl
theorem CxT372:Cx.T 372=some ty372:=by rfl
theorem CxT374:Cx.T 374=some ty374:=by rfl
theorem CxT376:Cx.T 376=some ty376:=by rfl
theorem CxT393:Cx.T 393=some ty393:=by rfl
theorem CxT400:Cx.T 400=some ty400:=by rfl
theorem CxT405:Cx.T 405=some ty405:=by rfl
theorem CxT428:Cx.T 428=some ty428:=by rfl
theorem CxT430:Cx.T 430=some ty430:=by rfl
theorem CxT433:Cx.T 433=some ty433:=by rfl
theorem CxT444:Cx.T 444=some ty444:=by rfl
theorem CxT447:Cx.T 447=some ty447:=by rfl
theorem CxB3:Cx.B 3=some fn3:=by rfl
theorem CxB7:Cx.B 7=some fn7:=by rfl
theorem CxB8:Cx.B 8=some fn8:=by rfl
theorem CxB9:Cx.B 9=some fn9:=by rfl
theorem CxB10:Cx.B 10=some fn10:=by rfl
theorem CxB11:Cx.B 11=some fn11:=by rfl
theorem CxB12:Cx.B 12=some fn12:=by rfl
theorem CxB13:Cx.B 13=some fn13:=by rfl
theorem CxB27:Cx.B 27=some fn27:=by rfl
theorem CxB28:Cx.B 28=some fn28:=by rfl
theorem CxB29:Cx.B 29=some fn29:=by rfl
theorem CxB30:Cx.B 30=some fn30:=by rfl
theorem CxB31:Cx.B 31=some fn31:=by rfl
theorem CxB32:Cx.B 32=some fn32:=by rfl
theorem CxB33:Cx.B 33=some fn33:=by rfl
theorem CxB34:Cx.B 34=some fn34:=by rfl
theorem CxB35:Cx.B 35=some fn35:=by rfl
theorem CxB36:Cx.B 36=some fn36:=by rfl
theorem CxB44:Cx.B 44=some fn44:=by rfl
theorem CxB46:Cx.B 46=some fn46:=by rfl
theorem CxB57:Cx.B 57=some fn57:=by rfl
theorem CxB58:Cx.B 58=some fn58:=by rfl
theorem CxB59:Cx.B 59=some fn59:=by rfl
theorem CxB60:Cx.B 60=some fn60:=by rfl
theorem CxB61:Cx.B 61=some fn61:=by rfl
theorem CxB62:Cx.B 62=some fn62:=by rfl
theorem CxB63:Cx.B 63=some fn63:=by rfl
theorem CxB64:Cx.B 64=some fn64:=by rfl
theorem CxB65:Cx.B 65=some fn65:=by rfl
theorem CxB66:Cx.B 66=some fn66:=by rfl
theorem CxB67:Cx.B 67=some fn67:=by rfl
theorem CxB68:Cx.B 68=some fn68:=by rfl
theorem CxB69:Cx.B 69=some fn69:=by rfl
theorem CxB70:Cx.B 70=some fn70:=by rfl
theorem CxB71:Cx.B 71=some fn71:=by rfl
theorem CxB72:Cx.B 72=some fn72:=by rfl
theorem CxB73:Cx.B 73=some fn73:=by rfl
theorem CxB74:Cx.B 74=some fn74:=by rfl
theorem CxB75:Cx.B 75=some fn75:=by rfl
theorem CxB81:Cx.B 81=some fn81:=by rfl
theorem CxB82:Cx.B 82=some fn82:=by rfl
theorem CxB84:Cx.B 84=some fn84:=by rfl
theorem CxB105:Cx.B 105=some fn105:=by rfl
theorem CxB106:Cx.B 106=some fn106:=by rfl
theorem CxB107:Cx.B 107=some fn107:=by rfl
theorem CxB108:Cx.B 108=some fn108:=by rfl
theorem CxB109:Cx.B 109=some fn109:=by rfl
theorem CxB110:Cx.B 110=some fn110:=by rfl
theorem CxB111:Cx.B 111=some fn111:=by rfl
theorem CxB112:Cx.B 112=some fn112:=by rfl
theorem CxB113:Cx.B 113=some fn113:=by rfl
theorem CxB114:Cx.B 114=some fn114:=by rfl
theorem CxB115:Cx.B 115=some fn115:=by rfl
theorem CxB116:Cx.B 116=some fn116:=by rfl
theorem CxB117:Cx.B 117=some fn117:=by rfl
theorem CxB118:Cx.B 118=some fn118:=by rfl
theorem CxB119:Cx.B 119=some fn119:=by rfl
theorem CxB120:Cx.B 120=some fn120:=by rfl
theorem CxB121:Cx.B 121=some fn121:=by rfl
theorem CxB122:Cx.B 122=some fn122:=by rfl
theorem CxB123:Cx.B 123=some fn123:=by rfl
theorem CxB124:Cx.B 124=some fn124:=by rfl
theorem CxB125:Cx.B 125=some fn125:=by rfl
theorem CxB126:Cx.B 126=some fn126:=by rfl
theorem CxB127:Cx.B 127=some fn127:=by rfl
theorem CxB128:Cx.B 128=some fn128:=by rfl
theorem CxB129:Cx.B 129=some fn129:=by rfl
theorem CxB130:Cx.B 130=some fn130:=by rfl
theorem CxB131:Cx.B 131=some fn131:=by rfl
theorem CxB132:Cx.B 132=some fn132:=by rfl
theorem CxB133:Cx.B 133=some fn133:=by rfl
theorem CxB134:Cx.B 134=some fn134:=by rfl
theorem CxB135:Cx.B 135=some fn135:=by rfl
theorem CxB136:Cx.B 136=some fn136:=by rfl
theorem CxB137:Cx.B 137=some fn137:=by rfl
theorem CxB138:Cx.B 138=some fn138:=by rfl
theorem CxB139:Cx.B 139=some fn139:=by rfl
theorem CxB140:Cx.B 140=some fn140:=by rfl
theorem CxB141:Cx.B 141=some fn141:=by rfl
theorem CxB142:Cx.B 142=some fn142:=by rfl
theorem CxB149:Cx.B 149=some fn149:=by rfl
theorem CxB150:Cx.B 150=some fn150:=by rfl
theorem CxB154:Cx.B 154=some fn154:=by rfl
theorem CxB165:Cx.B 165=some fn165:=by rfl
theorem CxB166:Cx.B 166=some fn166:=by rfl
theorem CxB167:Cx.B 167=some fn167:=by rfl
theorem CxB168:Cx.B 168=some fn168:=by rfl
theorem CxB169:Cx.B 169=some fn169:=by rfl
theorem CxB170:Cx.B 170=some fn170:=by rfl
theorem CxB171:Cx.B 171=some fn171:=by rfl
theorem CxB172:Cx.B 172=some fn172:=by rfl
theorem CxB173:Cx.B 173=some fn173:=by rfl
theorem CxB174:Cx.B 174=some fn174:=by rfl
theorem CxB175:Cx.B 175=some fn175:=by rfl
theorem CxB176:Cx.B 176=some fn176:=by rfl
theorem CxB177:Cx.B 177=some fn177:=by rfl
theorem CxB178:Cx.B 178=some fn178:=by rfl
theorem CxB179:Cx.B 179=some fn179:=by rfl
theorem CxB180:Cx.B 180=some fn180:=by rfl
theorem CxB181:Cx.B 181=some fn181:=by rfl
theorem CxB183:Cx.B 183=some fn183:=by rfl
theorem CxB184:Cx.B 184=some fn184:=by rfl
theorem CxB185:Cx.B 185=some fn185:=by rfl
theorem CxB186:Cx.B 186=some fn186:=by rfl
theorem CxB187:Cx.B 187=some fn187:=by rfl
theorem CxB188:Cx.B 188=some fn188:=by rfl
theorem CxB189:Cx.B 189=some fn189:=by rfl
theorem CxB190:Cx.B 190=some fn190:=by rfl
theorem CxB191:Cx.B 191=some fn191:=by rfl
theorem CxB192:Cx.B 192=some fn192:=by rfl
theorem CxB193:Cx.B 193=some fn193:=by rfl
theorem CxB194:Cx.B 194=some fn194:=by rfl
theorem CxB195:Cx.B 195=some fn195:=by rfl
theorem CxB196:Cx.B 196=some fn196:=by rfl
theorem CxB197:Cx.B 197=some fn197:=by rfl
theorem CxB198:Cx.B 198=some fn198:=by rfl
theorem CxB199:Cx.B 199=some fn199:=by rfl
theorem CxB200:Cx.B 200=some fn200:=by rfl
theorem CxB201:Cx.B 201=some fn201:=by rfl
theorem CxB202:Cx.B 202=some fn202:=by rfl
theorem CxB203:Cx.B 203=some fn203:=by rfl
theorem CxB204:Cx.B 204=some fn204:=by rfl
theorem CxB218:Cx.B 218=some fn218:=by rfl
theorem CxB219:Cx.B 219=some fn219:=by rfl
theorem CxB220:Cx.B 220=some fn220:=by rfl
theorem CxB221:Cx.B 221=some fn221:=by rfl
theorem CxB222:Cx.B 222=some fn222:=by rfl
theorem CxB223:Cx.B 223=some fn223:=by rfl
theorem CxB224:Cx.B 224=some fn224:=by rfl
theorem CxB226:Cx.B 226=some fn226:=by rfl
theorem CxB228:Cx.B 228=some fn228:=by rfl
theorem CxB229:Cx.B 229=some fn229:=by rfl
theorem CxB230:Cx.B 230=some fn230:=by rfl
theorem CxB231:Cx.B 231=some fn231:=by rfl
theorem CxB232:Cx.B 232=some fn232:=by rfl
theorem CxB233:Cx.B 233=some fn233:=by rfl
theorem CxB234:Cx.B 234=some fn234:=by rfl
theorem CxB235:Cx.B 235=some fn235:=by rfl
theorem CxB236:Cx.B 236=some fn236:=by rfl
theorem CxB237:Cx.B 237=some fn237:=by rfl
theorem CxB238:Cx.B 238=some fn238:=by rfl
theorem CxB239:Cx.B 239=some fn239:=by rfl
theorem CxB240:Cx.B 240=some fn240:=by rfl
theorem CxB241:Cx.B 241=some fn241:=by rfl
theorem CxB242:Cx.B 242=some fn242:=by rfl
theorem CxB243:Cx.B 243=some fn243:=by rfl
theorem CxB244:Cx.B 244=some fn244:=by rfl
theorem CxB245:Cx.B 245=some fn245:=by rfl
theorem CxB246:Cx.B 246=some fn246:=by rfl
theorem CxB247:Cx.B 247=some fn247:=by rfl
theorem CxB248:Cx.B 248=some fn248:=by rfl
theorem CxB249:Cx.B 249=some fn249:=by rfl
theorem CxB251:Cx.B 251=some fn251:=by rfl
theorem CxB252:Cx.B 252=some fn252:=by rfl
theorem CxB253:Cx.B 253=some fn253:=by rfl
theorem CxB254:Cx.B 254=some fn254:=by rfl
theorem CxB255:Cx.B 255=some fn255:=by rfl
theorem CxB256:Cx.B 256=some fn256:=by rfl
theorem CxB257:Cx.B 257=some fn257:=by rfl
theorem CxB258:Cx.B 258=some fn258:=by rfl
theorem CxB259:Cx.B 259=some fn259:=by rfl
theorem CxB260:Cx.B 260=some fn260:=by rfl
theorem CxB261:Cx.B 261=some fn261:=by rfl
theorem CxB262:Cx.B 262=some fn262:=by rfl
theorem CxB263:Cx.B 263=some fn263:=by rfl
theorem CxB264:Cx.B 264=some fn264:=by rfl
theorem CxB284:Cx.B 284=some fn284:=by rfl
theorem CxB285:Cx.B 285=some fn285:=by rfl
theorem CxB287:Cx.B 287=some fn287:=by rfl
theorem CxB288:Cx.B 288=some fn288:=by rfl
theorem CxB289:Cx.B 289=some fn289:=by rfl
theorem CxB290:Cx.B 290=some fn290:=by rfl
theorem CxB291:Cx.B 291=some fn291:=by rfl
theorem CxB292:Cx.B 292=some fn292:=by rfl
theorem CxB293:Cx.B 293=some fn293:=by rfl
theorem CxB294:Cx.B 294=some fn294:=by rfl
theorem CxB295:Cx.B 295=some fn295:=by rfl
theorem CxB296:Cx.B 296=some fn296:=by rfl
theorem CxB297:Cx.B 297=some fn297:=by rfl
theorem CxB298:Cx.B 298=some fn298:=by rfl
theorem CxB299:Cx.B 299=some fn299:=by rfl
theorem CxB300:Cx.B 300=some fn300:=by rfl
theorem CxB301:Cx.B 301=some fn301:=by rfl
theorem CxB302:Cx.B 302=some fn302:=by rfl
theorem CxB303:Cx.B 303=some fn303:=by rfl
theorem CxB304:Cx.B 304=some fn304:=by rfl
theorem CxB305:Cx.B 305=some fn305:=by rfl
theorem CxB306:Cx.B 306=some fn306:=by rfl
theorem CxB307:Cx.B 307=some fn307:=by rfl
theorem CxB308:Cx.B 308=some fn308:=by rfl
theorem CxB309:Cx.B 309=some fn309:=by rfl
theorem CxB310:Cx.B 310=some fn310:=by rfl
theorem CxB312:Cx.B 312=some fn312:=by rfl
theorem CxB315:Cx.B 315=some fn315:=by rfl
theorem CxB316:Cx.B 316=some fn316:=by rfl
theorem CxB330:Cx.B 330=some fn330:=by rfl
theorem CxB331:Cx.B 331=some fn331:=by rfl
theorem CxB332:Cx.B 332=some fn332:=by rfl
theorem CxB333:Cx.B 333=some fn333:=by rfl
theorem CxB334:Cx.B 334=some fn334:=by rfl
theorem CxB335:Cx.B 335=some fn335:=by rfl
theorem CxB336:Cx.B 336=some fn336:=by rfl
theorem CxB337:Cx.B 337=some fn337:=by rfl
theorem CxB339:Cx.B 339=some fn339:=by rfl
theorem CxB340:Cx.B 340=some fn340:=by rfl
theorem CxB341:Cx.B 341=some fn341:=by rfl
theorem CxB342:Cx.B 342=some fn342:=by rfl
theorem CxB343:Cx.B 343=some fn343:=by rfl
theorem CxB349:Cx.B 349=some fn349:=by rfl
theorem CxB350:Cx.B 350=some fn350:=by rfl
theorem CxB351:Cx.B 351=some fn351:=by rfl
theorem CxB352:Cx.B 352=some fn352:=by rfl
theorem CxB353:Cx.B 353=some fn353:=by rfl
theorem CxB354:Cx.B 354=some fn354:=by rfl
theorem CxB355:Cx.B 355=some fn355:=by rfl
theorem CxB356:Cx.B 356=some fn356:=by rfl
theorem CxB357:Cx.B 357=some fn357:=by rfl
theorem CxP9:isPass Cx 9=false:=by rfl
theorem CxP10:isPass Cx 10=false:=by rfl
theorem CxP27:isPass Cx 27=false:=by rfl
theorem CxP28:isPass Cx 28=false:=by rfl
theorem CxP29:isPass Cx 29=true:=by rfl
theorem CxP30:isPass Cx 30=true:=by rfl
theorem CxP31:isPass Cx 31=true:=by rfl
theorem CxP32:isPass Cx 32=false:=by rfl
theorem CxP33:isPass Cx 33=false:=by rfl
theorem CxP34:isPass Cx 34=false:=by rfl
theorem CxP35:isPass Cx 35=false:=by rfl
theorem CxP36:isPass Cx 36=true:=by rfl
theorem CxP44:isPass Cx 44=false:=by rfl
theorem CxP57:isPass Cx 57=false:=by rfl
theorem CxP58:isPass Cx 58=true:=by rfl
theorem CxP59:isPass Cx 59=true:=by rfl
theorem CxP60:isPass Cx 60=true:=by rfl
theorem CxP61:isPass Cx 61=true:=by rfl
theorem CxP62:isPass Cx 62=true:=by rfl
theorem CxP63:isPass Cx 63=true:=by rfl
theorem CxP64:isPass Cx 64=false:=by rfl
theorem CxP65:isPass Cx 65=false:=by rfl
theorem CxP66:isPass Cx 66=true:=by rfl
theorem CxP67:isPass Cx 67=true:=by rfl
theorem CxP68:isPass Cx 68=false:=by rfl
theorem CxP69:isPass Cx 69=true:=by rfl
theorem CxP70:isPass Cx 70=false:=by rfl
theorem CxP71:isPass Cx 71=true:=by rfl
theorem CxP72:isPass Cx 72=true:=by rfl
theorem CxP74:isPass Cx 74=true:=by rfl
theorem CxP75:isPass Cx 75=false:=by rfl
theorem CxP81:isPass Cx 81=false:=by rfl
theorem CxP82:isPass Cx 82=false:=by rfl
theorem CxP84:isPass Cx 84=false:=by rfl
theorem CxP105:isPass Cx 105=false:=by rfl
theorem CxP106:isPass Cx 106=true:=by rfl
theorem CxP107:isPass Cx 107=true:=by rfl
theorem CxP108:isPass Cx 108=false:=by rfl
theorem CxP109:isPass Cx 109=true:=by rfl
theorem CxP110:isPass Cx 110=false:=by rfl
theorem CxP111:isPass Cx 111=false:=by rfl
theorem CxP112:isPass Cx 112=false:=by rfl
theorem CxP113:isPass Cx 113=true:=by rfl
theorem CxP114:isPass Cx 114=false:=by rfl
theorem CxP115:isPass Cx 115=false:=by rfl
theorem CxP116:isPass Cx 116=true:=by rfl
theorem CxP117:isPass Cx 117=true:=by rfl
theorem CxP118:isPass Cx 118=false:=by rfl
theorem CxP119:isPass Cx 119=false:=by rfl
theorem CxP120:isPass Cx 120=false:=by rfl
theorem CxP121:isPass Cx 121=true:=by rfl
theorem CxP122:isPass Cx 122=false:=by rfl
theorem CxP123:isPass Cx 123=false:=by rfl
theorem CxP124:isPass Cx 124=true:=by rfl
theorem CxP126:isPass Cx 126=false:=by rfl
theorem CxP127:isPass Cx 127=true:=by rfl
theorem CxP128:isPass Cx 128=false:=by rfl
theorem CxP129:isPass Cx 129=true:=by rfl
theorem CxP130:isPass Cx 130=true:=by rfl
theorem CxP131:isPass Cx 131=false:=by rfl
theorem CxP132:isPass Cx 132=true:=by rfl
theorem CxP133:isPass Cx 133=true:=by rfl
theorem CxP134:isPass Cx 134=true:=by rfl
theorem CxP135:isPass Cx 135=false:=by rfl
theorem CxP136:isPass Cx 136=true:=by rfl
theorem CxP137:isPass Cx 137=true:=by rfl
theorem CxP138:isPass Cx 138=false:=by rfl
theorem CxP139:isPass Cx 139=true:=by rfl
theorem CxP140:isPass Cx 140=true:=by rfl
theorem CxP141:isPass Cx 141=false:=by rfl
theorem CxP142:isPass Cx 142=true:=by rfl
theorem CxP143:isPass Cx 143=false:=by rfl
theorem CxP144:isPass Cx 144=false:=by rfl
theorem CxP149:isPass Cx 149=false:=by rfl
theorem CxP150:isPass Cx 150=false:=by rfl
theorem CxP165:isPass Cx 165=true:=by rfl
theorem CxP166:isPass Cx 166=false:=by rfl
theorem CxP167:isPass Cx 167=true:=by rfl
theorem CxP168:isPass Cx 168=true:=by rfl
theorem CxP169:isPass Cx 169=true:=by rfl
theorem CxP170:isPass Cx 170=true:=by rfl
theorem CxP171:isPass Cx 171=true:=by rfl
theorem CxP172:isPass Cx 172=true:=by rfl
theorem CxP173:isPass Cx 173=true:=by rfl
theorem CxP174:isPass Cx 174=false:=by rfl
theorem CxP175:isPass Cx 175=true:=by rfl
theorem CxP177:isPass Cx 177=false:=by rfl
theorem CxP178:isPass Cx 178=false:=by rfl
theorem CxP179:isPass Cx 179=false:=by rfl
theorem CxP180:isPass Cx 180=true:=by rfl
theorem CxP181:isPass Cx 181=false:=by rfl
theorem CxP183:isPass Cx 183=true:=by rfl
theorem CxP184:isPass Cx 184=true:=by rfl
theorem CxP185:isPass Cx 185=true:=by rfl
theorem CxP186:isPass Cx 186=true:=by rfl
theorem CxP187:isPass Cx 187=false:=by rfl
theorem CxP188:isPass Cx 188=false:=by rfl
theorem CxP189:isPass Cx 189=true:=by rfl
theorem CxP190:isPass Cx 190=true:=by rfl
theorem CxP191:isPass Cx 191=false:=by rfl
theorem CxP192:isPass Cx 192=false:=by rfl
theorem CxP193:isPass Cx 193=false:=by rfl
theorem CxP194:isPass Cx 194=false:=by rfl
theorem CxP195:isPass Cx 195=false:=by rfl
theorem CxP196:isPass Cx 196=false:=by rfl
theorem CxP197:isPass Cx 197=true:=by rfl
theorem CxP198:isPass Cx 198=true:=by rfl
theorem CxP199:isPass Cx 199=false:=by rfl
theorem CxP200:isPass Cx 200=false:=by rfl
theorem CxP201:isPass Cx 201=false:=by rfl
theorem CxP202:isPass Cx 202=false:=by rfl
theorem CxP203:isPass Cx 203=true:=by rfl
theorem CxP204:isPass Cx 204=true:=by rfl
theorem CxP218:isPass Cx 218=true:=by rfl
theorem CxP220:isPass Cx 220=false:=by rfl
theorem CxP221:isPass Cx 221=true:=by rfl
theorem CxP222:isPass Cx 222=false:=by rfl
theorem CxP223:isPass Cx 223=false:=by rfl
theorem CxP224:isPass Cx 224=true:=by rfl
theorem CxP227:isPass Cx 227=false:=by rfl
theorem CxP228:isPass Cx 228=true:=by rfl
theorem CxP229:isPass Cx 229=true:=by rfl
theorem CxP230:isPass Cx 230=true:=by rfl
theorem CxP231:isPass Cx 231=true:=by rfl
theorem CxP233:isPass Cx 233=false:=by rfl
theorem CxP234:isPass Cx 234=true:=by rfl
theorem CxP235:isPass Cx 235=true:=by rfl
theorem CxP236:isPass Cx 236=true:=by rfl
theorem CxP237:isPass Cx 237=true:=by rfl
theorem CxP238:isPass Cx 238=true:=by rfl
theorem CxP239:isPass Cx 239=true:=by rfl
theorem CxP240:isPass Cx 240=true:=by rfl
theorem CxP241:isPass Cx 241=true:=by rfl
theorem CxP242:isPass Cx 242=true:=by rfl
theorem CxP243:isPass Cx 243=true:=by rfl
theorem CxP244:isPass Cx 244=true:=by rfl
theorem CxP245:isPass Cx 245=true:=by rfl
theorem CxP246:isPass Cx 246=true:=by rfl
theorem CxP247:isPass Cx 247=true:=by rfl
theorem CxP248:isPass Cx 248=true:=by rfl
theorem CxP249:isPass Cx 249=true:=by rfl
theorem CxP250:isPass Cx 250=false:=by rfl
theorem CxP251:isPass Cx 251=false:=by rfl
theorem CxP252:isPass Cx 252=false:=by rfl
theorem CxP253:isPass Cx 253=false:=by rfl
theorem CxP254:isPass Cx 254=true:=by rfl
theorem CxP255:isPass Cx 255=true:=by rfl
theorem CxP256:isPass Cx 256=true:=by rfl
theorem CxP257:isPass Cx 257=true:=by rfl
theorem CxP258:isPass Cx 258=true:=by rfl
theorem CxP259:isPass Cx 259=true:=by rfl
theorem CxP260:isPass Cx 260=true:=by rfl
theorem CxP261:isPass Cx 261=false:=by rfl
theorem CxP262:isPass Cx 262=true:=by rfl
theorem CxP263:isPass Cx 263=true:=by rfl
theorem CxP264:isPass Cx 264=true:=by rfl
theorem CxP284:isPass Cx 284=false:=by rfl
theorem CxP285:isPass Cx 285=true:=by rfl
theorem CxP287:isPass Cx 287=false:=by rfl
theorem CxP288:isPass Cx 288=true:=by rfl
theorem CxP289:isPass Cx 289=true:=by rfl
theorem CxP290:isPass Cx 290=true:=by rfl
theorem CxP291:isPass Cx 291=true:=by rfl
theorem CxP292:isPass Cx 292=true:=by rfl
theorem CxP293:isPass Cx 293=true:=by rfl
theorem CxP294:isPass Cx 294=true:=by rfl
theorem CxP295:isPass Cx 295=true:=by rfl
theorem CxP296:isPass Cx 296=true:=by rfl
theorem CxP297:isPass Cx 297=true:=by rfl
theorem CxP298:isPass Cx 298=true:=by rfl
theorem CxP299:isPass Cx 299=false:=by rfl
theorem CxP302:isPass Cx 302=true:=by rfl
theorem CxP303:isPass Cx 303=true:=by rfl
theorem CxP304:isPass Cx 304=true:=by rfl
theorem CxP305:isPass Cx 305=true:=by rfl
theorem CxP306:isPass Cx 306=false:=by rfl
theorem CxP308:isPass Cx 308=true:=by rfl
theorem CxP309:isPass Cx 309=true:=by rfl
theorem CxP330:isPass Cx 330=false:=by rfl
theorem CxP331:isPass Cx 331=true:=by rfl
theorem CxP332:isPass Cx 332=true:=by rfl
theorem CxP333:isPass Cx 333=false:=by rfl
theorem CxP334:isPass Cx 334=false:=by rfl
theorem CxP335:isPass Cx 335=false:=by rfl
theorem CxP336:isPass Cx 336=false:=by rfl
theorem CxP337:isPass Cx 337=false:=by rfl
theorem CxP339:isPass Cx 339=true:=by rfl
theorem CxP340:isPass Cx 340=true:=by rfl
theorem CxP341:isPass Cx 341=true:=by rfl
theorem CxP342:isPass Cx 342=true:=by rfl
theorem CxP343:isPass Cx 343=false:=by rfl
theorem CxP346:isPass Cx 346=false:=by rfl
theorem CxP348:isPass Cx 348=false:=by rfl
theorem CxP349:isPass Cx 349=true:=by rfl
theorem CxP350:isPass Cx 350=false:=by rfl
theorem CxP351:isPass Cx 351=false:=by rfl
theorem CxP352:isPass Cx 352=false:=by rfl
theorem CxP353:isPass Cx 353=true:=by rfl
theorem CxP354:isPass Cx 354=true:=by rfl
theorem CxP355:isPass Cx 355=true:=by rfl
theorem CxP356:isPass Cx 356=true:=by rfl
theorem CxP357:isPass Cx 357=false:=by rfl
theorem CxG9:Cx.T.gl.tab 9=some ([.int .u8 0,.int .u8 1,.int .u8 56,.int .u8 2,.int .u8 57,.int .u8 49,.int .u8 28,.int .u8 3,.int .u8 61,.int .u8 58,.int .u8 42,.int .u8 50,.int .u8 38,.int .u8 29,.int .u8 17,.int .u8 4,.int .u8 62,.int .u8 47,.int .u8 59,.int .u8 36,.int .u8 45,.int .u8 43,.int .u8 51,.int .u8 22,.int .u8 53,.int .u8 39,.int .u8 33,.int .u8 30,.int .u8 24,.int .u8 18,.int .u8 12,.int .u8 5,.int .u8 63,.int .u8 55,.int .u8 48,.int .u8 27,.int .u8 60,.int .u8 41,.int .u8 37,.int .u8 16,.int .u8 46,.int .u8 35,.int .u8 44,.int .u8 21,.int .u8 52,.int .u8 32,.int .u8 23,.int .u8 11,.int .u8 54,.int .u8 26,.int .u8 40,.int .u8 15,.int .u8 34,.int .u8 20,.int .u8 31,.int .u8 10,.int .u8 25,.int .u8 14,.int .u8 19,.int .u8 9,.int .u8 13,.int .u8 8,.int .u8 7,.int .u8 6]:List Value):=by rfl
theorem CxG0:Cx.T.gl.tab 0=some ([.int .i64 4,.int .i64 2,.int .i64 4,.int .i64 4,.int .i64 4]:List Value):=by rfl
theorem CxG4:Cx.T.gl.tab 4=some ([.int .u8 0,.int .u8 35,.int .u8 38,.int .u8 29,.int .u8 7,.int .u8 7,.int .u8 15,.int .u8 32,.int .u8 92]:List Value):=by rfl
theorem CxG2:Cx.T.gl.tab 2=some ([.int .u8 0,.int .u8 1,.int .u8 1,.int .u8 1,.int .u8 3,.int .u8 3,.int .u8 2,.int .u8 2,.int .u8 2,.int .u8 2,.int .u8 3,.int .u8 3,.int .u8 3]:List Value):=by rfl
section
variable{zs:List A}{dst:Option Nat}{ms:List MOp}{st:Ev.St}{k:List It}{Q:Ex→Ev.St→Prop}
theorem ps9:PassK Cx 9 zs dst ms st k Q↔LentK Cx 9 (lendL st.H zs) (zs.all shut) dst 0 ms st k Q:=passK_shut CxP9
theorem ps10:PassK Cx 10 zs dst ms st k Q↔LentK Cx 10 (lendL st.H zs) (zs.all shut) dst 0 ms st k Q:=passK_shut CxP10
theorem ps27:PassK Cx 27 zs dst ms st k Q↔LentK Cx 27 (lendL st.H zs) (zs.all shut) dst 0 ms st k Q:=passK_shut CxP27
theorem ps28:PassK Cx 28 zs dst ms st k Q↔LentK Cx 28 (lendL st.H zs) (zs.all shut) dst 0 ms st k Q:=passK_shut CxP28
theorem ps32:PassK Cx 32 zs dst ms st k Q↔LentK Cx 32 (lendL st.H zs) (zs.all shut) dst 0 ms st k Q:=passK_shut CxP32
theorem ps33:PassK Cx 33 zs dst ms st k Q↔LentK Cx 33 (lendL st.H zs) (zs.all shut) dst 0 ms st k Q:=passK_shut CxP33
theorem ps34:PassK Cx 34 zs dst ms st k Q↔LentK Cx 34 (lendL st.H zs) (zs.all shut) dst 0 ms st k Q:=passK_shut CxP34
theorem ps35:PassK Cx 35 zs dst ms st k Q↔LentK Cx 35 (lendL st.H zs) (zs.all shut) dst 0 ms st k Q:=passK_shut CxP35
theorem ps44:PassK Cx 44 zs dst ms st k Q↔LentK Cx 44 (lendL st.H zs) (zs.all shut) dst 0 ms st k Q:=passK_shut CxP44
theorem ps57:PassK Cx 57 zs dst ms st k Q↔LentK Cx 57 (lendL st.H zs) (zs.all shut) dst 0 ms st k Q:=passK_shut CxP57
theorem ps64:PassK Cx 64 zs dst ms st k Q↔LentK Cx 64 (lendL st.H zs) (zs.all shut) dst 0 ms st k Q:=passK_shut CxP64
theorem ps65:PassK Cx 65 zs dst ms st k Q↔LentK Cx 65 (lendL st.H zs) (zs.all shut) dst 0 ms st k Q:=passK_shut CxP65
theorem ps68:PassK Cx 68 zs dst ms st k Q↔LentK Cx 68 (lendL st.H zs) (zs.all shut) dst 0 ms st k Q:=passK_shut CxP68
theorem ps70:PassK Cx 70 zs dst ms st k Q↔LentK Cx 70 (lendL st.H zs) (zs.all shut) dst 0 ms st k Q:=passK_shut CxP70
theorem ps75:PassK Cx 75 zs dst ms st k Q↔LentK Cx 75 (lendL st.H zs) (zs.all shut) dst 0 ms st k Q:=passK_shut CxP75
theorem ps105:PassK Cx 105 zs dst ms st k Q↔LentK Cx 105 (lendL st.H zs) (zs.all shut) dst 0 ms st k Q:=passK_shut CxP105
theorem ps108:PassK Cx 108 zs dst ms st k Q↔LentK Cx 108 (lendL st.H zs) (zs.all shut) dst 0 ms st k Q:=passK_shut CxP108
theorem ps110:PassK Cx 110 zs dst ms st k Q↔LentK Cx 110 (lendL st.H zs) (zs.all shut) dst 0 ms st k Q:=passK_shut CxP110
theorem ps111:PassK Cx 111 zs dst ms st k Q↔LentK Cx 111 (lendL st.H zs) (zs.all shut) dst 0 ms st k Q:=passK_shut CxP111
theorem ps112:PassK Cx 112 zs dst ms st k Q↔LentK Cx 112 (lendL st.H zs) (zs.all shut) dst 0 ms st k Q:=passK_shut CxP112
theorem ps114:PassK Cx 114 zs dst ms st k Q↔LentK Cx 114 (lendL st.H zs) (zs.all shut) dst 0 ms st k Q:=passK_shut CxP114
theorem ps115:PassK Cx 115 zs dst ms st k Q↔LentK Cx 115 (lendL st.H zs) (zs.all shut) dst 0 ms st k Q:=passK_shut CxP115
theorem ps118:PassK Cx 118 zs dst ms st k Q↔LentK Cx 118 (lendL st.H zs) (zs.all shut) dst 0 ms st k Q:=passK_shut CxP118
theorem ps119:PassK Cx 119 zs dst ms st k Q↔LentK Cx 119 (lendL st.H zs) (zs.all shut) dst 0 ms st k Q:=passK_shut CxP119
theorem ps120:PassK Cx 120 zs dst ms st k Q↔LentK Cx 120 (lendL st.H zs) (zs.all shut) dst 0 ms st k Q:=passK_shut CxP120
theorem ps122:PassK Cx 122 zs dst ms st k Q↔LentK Cx 122 (lendL st.H zs) (zs.all shut) dst 0 ms st k Q:=passK_shut CxP122
theorem ps123:PassK Cx 123 zs dst ms st k Q↔LentK Cx 123 (lendL st.H zs) (zs.all shut) dst 0 ms st k Q:=passK_shut CxP123
theorem ps126:PassK Cx 126 zs dst ms st k Q↔LentK Cx 126 (lendL st.H zs) (zs.all shut) dst 0 ms st k Q:=passK_shut CxP126
theorem ps128:PassK Cx 128 zs dst ms st k Q↔LentK Cx 128 (lendL st.H zs) (zs.all shut) dst 0 ms st k Q:=passK_shut CxP128
theorem ps131:PassK Cx 131 zs dst ms st k Q↔LentK Cx 131 (lendL st.H zs) (zs.all shut) dst 0 ms st k Q:=passK_shut CxP131
theorem ps135:PassK Cx 135 zs dst ms st k Q↔LentK Cx 135 (lendL st.H zs) (zs.all shut) dst 0 ms st k Q:=passK_shut CxP135
theorem ps138:PassK Cx 138 zs dst ms st k Q↔LentK Cx 138 (lendL st.H zs) (zs.all shut) dst 0 ms st k Q:=passK_shut CxP138
theorem ps141:PassK Cx 141 zs dst ms st k Q↔LentK Cx 141 (lendL st.H zs) (zs.all shut) dst 0 ms st k Q:=passK_shut CxP141
theorem ps143:PassK Cx 143 zs dst ms st k Q↔LentK Cx 143 (lendL st.H zs) (zs.all shut) dst 0 ms st k Q:=passK_shut CxP143
theorem ps144:PassK Cx 144 zs dst ms st k Q↔LentK Cx 144 (lendL st.H zs) (zs.all shut) dst 0 ms st k Q:=passK_shut CxP144
theorem ps149:PassK Cx 149 zs dst ms st k Q↔LentK Cx 149 (lendL st.H zs) (zs.all shut) dst 0 ms st k Q:=passK_shut CxP149
theorem ps150:PassK Cx 150 zs dst ms st k Q↔LentK Cx 150 (lendL st.H zs) (zs.all shut) dst 0 ms st k Q:=passK_shut CxP150
theorem ps166:PassK Cx 166 zs dst ms st k Q↔LentK Cx 166 (lendL st.H zs) (zs.all shut) dst 0 ms st k Q:=passK_shut CxP166
theorem ps174:PassK Cx 174 zs dst ms st k Q↔LentK Cx 174 (lendL st.H zs) (zs.all shut) dst 0 ms st k Q:=passK_shut CxP174
theorem ps177:PassK Cx 177 zs dst ms st k Q↔LentK Cx 177 (lendL st.H zs) (zs.all shut) dst 0 ms st k Q:=passK_shut CxP177
theorem ps178:PassK Cx 178 zs dst ms st k Q↔LentK Cx 178 (lendL st.H zs) (zs.all shut) dst 0 ms st k Q:=passK_shut CxP178
theorem ps179:PassK Cx 179 zs dst ms st k Q↔LentK Cx 179 (lendL st.H zs) (zs.all shut) dst 0 ms st k Q:=passK_shut CxP179
theorem ps181:PassK Cx 181 zs dst ms st k Q↔LentK Cx 181 (lendL st.H zs) (zs.all shut) dst 0 ms st k Q:=passK_shut CxP181
theorem ps187:PassK Cx 187 zs dst ms st k Q↔LentK Cx 187 (lendL st.H zs) (zs.all shut) dst 0 ms st k Q:=passK_shut CxP187
theorem ps188:PassK Cx 188 zs dst ms st k Q↔LentK Cx 188 (lendL st.H zs) (zs.all shut) dst 0 ms st k Q:=passK_shut CxP188
theorem ps191:PassK Cx 191 zs dst ms st k Q↔LentK Cx 191 (lendL st.H zs) (zs.all shut) dst 0 ms st k Q:=passK_shut CxP191
theorem ps192:PassK Cx 192 zs dst ms st k Q↔LentK Cx 192 (lendL st.H zs) (zs.all shut) dst 0 ms st k Q:=passK_shut CxP192
theorem ps193:PassK Cx 193 zs dst ms st k Q↔LentK Cx 193 (lendL st.H zs) (zs.all shut) dst 0 ms st k Q:=passK_shut CxP193
theorem ps194:PassK Cx 194 zs dst ms st k Q↔LentK Cx 194 (lendL st.H zs) (zs.all shut) dst 0 ms st k Q:=passK_shut CxP194
theorem ps195:PassK Cx 195 zs dst ms st k Q↔LentK Cx 195 (lendL st.H zs) (zs.all shut) dst 0 ms st k Q:=passK_shut CxP195
theorem ps196:PassK Cx 196 zs dst ms st k Q↔LentK Cx 196 (lendL st.H zs) (zs.all shut) dst 0 ms st k Q:=passK_shut CxP196
theorem ps199:PassK Cx 199 zs dst ms st k Q↔LentK Cx 199 (lendL st.H zs) (zs.all shut) dst 0 ms st k Q:=passK_shut CxP199
theorem ps200:PassK Cx 200 zs dst ms st k Q↔LentK Cx 200 (lendL st.H zs) (zs.all shut) dst 0 ms st k Q:=passK_shut CxP200
theorem ps201:PassK Cx 201 zs dst ms st k Q↔LentK Cx 201 (lendL st.H zs) (zs.all shut) dst 0 ms st k Q:=passK_shut CxP201
theorem ps202:PassK Cx 202 zs dst ms st k Q↔LentK Cx 202 (lendL st.H zs) (zs.all shut) dst 0 ms st k Q:=passK_shut CxP202
theorem ps220:PassK Cx 220 zs dst ms st k Q↔LentK Cx 220 (lendL st.H zs) (zs.all shut) dst 0 ms st k Q:=passK_shut CxP220
theorem ps222:PassK Cx 222 zs dst ms st k Q↔LentK Cx 222 (lendL st.H zs) (zs.all shut) dst 0 ms st k Q:=passK_shut CxP222
theorem ps223:PassK Cx 223 zs dst ms st k Q↔LentK Cx 223 (lendL st.H zs) (zs.all shut) dst 0 ms st k Q:=passK_shut CxP223
theorem ps227:PassK Cx 227 zs dst ms st k Q↔LentK Cx 227 (lendL st.H zs) (zs.all shut) dst 0 ms st k Q:=passK_shut CxP227
theorem ps233:PassK Cx 233 zs dst ms st k Q↔LentK Cx 233 (lendL st.H zs) (zs.all shut) dst 0 ms st k Q:=passK_shut CxP233
theorem ps250:PassK Cx 250 zs dst ms st k Q↔LentK Cx 250 (lendL st.H zs) (zs.all shut) dst 0 ms st k Q:=passK_shut CxP250
theorem ps251:PassK Cx 251 zs dst ms st k Q↔LentK Cx 251 (lendL st.H zs) (zs.all shut) dst 0 ms st k Q:=passK_shut CxP251
theorem ps252:PassK Cx 252 zs dst ms st k Q↔LentK Cx 252 (lendL st.H zs) (zs.all shut) dst 0 ms st k Q:=passK_shut CxP252
theorem ps253:PassK Cx 253 zs dst ms st k Q↔LentK Cx 253 (lendL st.H zs) (zs.all shut) dst 0 ms st k Q:=passK_shut CxP253
theorem ps261:PassK Cx 261 zs dst ms st k Q↔LentK Cx 261 (lendL st.H zs) (zs.all shut) dst 0 ms st k Q:=passK_shut CxP261
theorem ps287:PassK Cx 287 zs dst ms st k Q↔LentK Cx 287 (lendL st.H zs) (zs.all shut) dst 0 ms st k Q:=passK_shut CxP287
theorem ps299:PassK Cx 299 zs dst ms st k Q↔LentK Cx 299 (lendL st.H zs) (zs.all shut) dst 0 ms st k Q:=passK_shut CxP299
theorem ps306:PassK Cx 306 zs dst ms st k Q↔LentK Cx 306 (lendL st.H zs) (zs.all shut) dst 0 ms st k Q:=passK_shut CxP306
theorem ps333:PassK Cx 333 zs dst ms st k Q↔LentK Cx 333 (lendL st.H zs) (zs.all shut) dst 0 ms st k Q:=passK_shut CxP333
theorem ps334:PassK Cx 334 zs dst ms st k Q↔LentK Cx 334 (lendL st.H zs) (zs.all shut) dst 0 ms st k Q:=passK_shut CxP334
theorem ps335:PassK Cx 335 zs dst ms st k Q↔LentK Cx 335 (lendL st.H zs) (zs.all shut) dst 0 ms st k Q:=passK_shut CxP335
theorem ps336:PassK Cx 336 zs dst ms st k Q↔LentK Cx 336 (lendL st.H zs) (zs.all shut) dst 0 ms st k Q:=passK_shut CxP336
theorem ps337:PassK Cx 337 zs dst ms st k Q↔LentK Cx 337 (lendL st.H zs) (zs.all shut) dst 0 ms st k Q:=passK_shut CxP337
theorem ps346:PassK Cx 346 zs dst ms st k Q↔LentK Cx 346 (lendL st.H zs) (zs.all shut) dst 0 ms st k Q:=passK_shut CxP346
theorem ps348:PassK Cx 348 zs dst ms st k Q↔LentK Cx 348 (lendL st.H zs) (zs.all shut) dst 0 ms st k Q:=passK_shut CxP348
theorem ps350:PassK Cx 350 zs dst ms st k Q↔LentK Cx 350 (lendL st.H zs) (zs.all shut) dst 0 ms st k Q:=passK_shut CxP350
theorem ps351:PassK Cx 351 zs dst ms st k Q↔LentK Cx 351 (lendL st.H zs) (zs.all shut) dst 0 ms st k Q:=passK_shut CxP351
theorem ps352:PassK Cx 352 zs dst ms st k Q↔LentK Cx 352 (lendL st.H zs) (zs.all shut) dst 0 ms st k Q:=passK_shut CxP352
theorem ps357:PassK Cx 357 zs dst ms st k Q↔LentK Cx 357 (lendL st.H zs) (zs.all shut) dst 0 ms st k Q:=passK_shut CxP357
end
attribute [go_sem] fn3 m3 g3 u3_l0 g3_l0 fn6 m6 g6 fn7 m7 g7 u7_l0 g7_l0 fn8 m8 g8 u8_l0 g8_l0 u8_l1 g8_l1 fn9 m9 g9 fn10 m10 g10 u10_l0 g10_l0 u10_l1 g10_l1 fn11 m11 g11 fn12 m12 g12 u12_l0 g12_l0 fn13 m13 g13 fn17 m17 g17 fn19 m19 g19 fn24 m24 g24 fn25 m25 g25 fn26 m26 g26 fn27 m27 g27 u27_l0 g27_l0 fn28 m28 g28 fn29 m29 g29 fn30 m30 g30 fn31 m31 g31 fn32 m32 g32 fn33 m33 g33 fn34 m34 g34 fn35 m35 g35 u35_l0 g35_l0 u35_l1 g35_l1 fn36 m36 g36 u36_l0 g36_l0 fn42 m42 g42 fn43 m43 g43 fn44 m44 g44 fn45 m45 g45 fn46 m46 g46 fn47 m47 g47 fn56 m56 g56 fn57 m57 g57 u57_l0 g57_l0 fn58 m58 g58 fn59 m59 g59 fn60 m60 g60 fn61 m61 g61 fn62 m62 g62 fn63 m63 g63 u63_l1 g63_l1 u63_l2 g63_l2 u63_l3 g63_l3 u63_l4 g63_l4 fn64 m64 g64 u64_l0 g64_l0 u64_l1 g64_l1 fn65 m65 g65 fn66 m66 g66 fn67 m67 g67 fn68 m68 g68 u68_l0 g68_l0 fn69 m69 g69 fn70 m70 g70 fn71 m71 g71 fn72 m72 g72 fn73 m73 g73 fn74 m74 g74 fn75 m75 g75 fn80 m80 g80 fn81 m81 g81 fn82 m82 g82 fn83 m83 g83 fn84 m84 g84 fn85 m85 g85 fn101 m101 g101 fn102 m102 g102 fn103 m103 g103 fn104 m104 g104 fn105 m105 g105 fn106 m106 g106 fn107 m107 g107 fn108 m108 g108 fn109 m109 g109 fn110 m110 g110 fn111 m111 g111 fn112 m112 g112 fn113 m113 g113 fn114 m114 g114 fn115 m115 g115 fn116 m116 g116 u116_l0 g116_l0 fn117 m117 g117 fn118 m118 g118 fn119 m119 g119 fn120 m120 g120 fn121 m121 g121 fn122 m122 g122 fn123 m123 g123 fn124 m124 g124 fn125 m125 g125 fn126 m126 g126 fn127 m127 g127 fn128 m128 g128 u128_l0 g128_l0 fn129 m129 g129 u129_l0 g129_l0 fn130 m130 g130 fn131 m131 g131 fn132 m132 g132 fn133 m133 g133 u133_l0 g133_l0 fn134 m134 g134 fn135 m135 g135 fn136 m136 g136 fn137 m137 g137 fn138 m138 g138 u138_l0 g138_l0 u138_l1 g138_l1 fn139 m139 g139 fn140 m140 g140 fn141 m141 g141 fn142 m142 g142 u142_l0 g142_l0 u142_l1 g142_l1 u142_l2 g142_l2 u142_l3 g142_l3 fn143 m143 g143 fn144 m144 g144 fn147 m147 g147 fn148 m148 g148 fn149 m149 g149 fn150 m150 g150 fn154 m154 g154 fn161 m161 g161 fn162 m162 g162 fn163 m163 g163 fn164 m164 g164 fn165 m165 g165 fn166 m166 g166 u166_l0 g166_l0 fn167 m167 g167 fn168 m168 g168 fn169 m169 g169 fn170 m170 g170 fn171 m171 g171 fn172 m172 g172 fn173 m173 g173 fn174 m174 g174 fn175 m175 g175 fn176 m176 g176 fn177 m177 g177 fn178 m178 g178 fn179 m179 g179 fn180 m180 g180 fn181 m181 g181 fn182 m182 g182 fn183 m183 g183 u183_l0 g183_l0 u183_l1 g183_l1 fn184 m184 g184 u184_l0 g184_l0 fn185 m185 g185 fn186 m186 g186 u186_l0 g186_l0 fn187 m187 g187 fn188 m188 g188 fn189 m189 g189 fn190 m190 g190 fn191 m191 g191 fn192 m192 g192 fn193 m193 g193 fn194 m194 g194 fn195 m195 g195 fn196 m196 g196 fn197 m197 g197 u197_l0 g197_l0 fn198 m198 g198 u198_l0 g198_l0 fn199 m199 g199 fn200 m200 g200 u200_l0 g200_l0 u200_l1 g200_l1 fn201 m201 g201 u201_l0 g201_l0 fn202 m202 g202 fn203 m203 g203 fn204 m204 g204 u204_l0 g204_l0 fn205 m205 g205 fn217 m217 g217 fn218 m218 g218 fn219 m219 g219 fn220 m220 g220 fn221 m221 g221 u221_l0 g221_l0 u221_l1 g221_l1 fn222 m222 g222 fn223 m223 g223 fn224 m224 g224 fn226 m226 g226 fn227 m227 g227 fn228 m228 g228 fn229 m229 g229 fn230 m230 g230 fn231 m231 g231 fn232 m232 g232 fn233 m233 g233 fn234 m234 g234 fn235 m235 g235 fn236 m236 g236 fn237 m237 g237 fn238 m238 g238 fn239 m239 g239 fn240 m240 g240 fn241 m241 g241 fn242 m242 g242 fn243 m243 g243 fn244 m244 g244 fn245 m245 g245 fn246 m246 g246 fn247 m247 g247 fn248 m248 g248 fn249 m249 g249 fn250 m250 g250 fn251 m251 g251 fn252 m252 g252 fn253 m253 g253 u253_l0 g253_l0 fn254 m254 g254 fn255 m255 g255 fn256 m256 g256 fn257 m257 g257 fn258 m258 g258 fn259 m259 g259 fn260 m260 g260 fn261 m261 g261 fn262 m262 g262 fn263 m263 g263 fn264 m264 g264 fn265 m265 g265 fn284 m284 g284 fn285 m285 g285 u285_l0 g285_l0 fn286 m286 g286 fn287 m287 g287 fn288 m288 g288 fn289 m289 g289 fn290 m290 g290 fn291 m291 g291 fn292 m292 g292 fn293 m293 g293 fn294 m294 g294 fn295 m295 g295 fn296 m296 g296 fn297 m297 g297 fn298 m298 g298 fn299 m299 g299 fn300 m300 g300 fn301 m301 g301 fn302 m302 g302 fn303 m303 g303 u303_l0 g303_l0 fn304 m304 g304 fn305 m305 g305 fn306 m306 g306 fn307 m307 g307 fn308 m308 g308 u308_l0 g308_l0 fn309 m309 g309 u309_l0 g309_l0 fn310 m310 g310 fn311 m311 g311 fn312 m312 g312 fn313 m313 g313 fn314 m314 g314 fn315 m315 g315 fn316 m316 g316 fn330 m330 g330 u330_l0 g330_l0 fn331 m331 g331 fn332 m332 g332 fn333 m333 g333 fn334 m334 g334 fn335 m335 g335 fn336 m336 g336 fn337 m337 g337 fn338 m338 g338 fn339 m339 g339 u339_l0 g339_l0 u339_l1 g339_l1 fn340 m340 g340 fn341 m341 g341 fn342 m342 g342 fn343 m343 g343 fn344 m344 g344 fn346 m346 g346 fn348 m348 g348 fn349 m349 g349 fn350 m350 g350 fn351 m351 g351 fn352 m352 g352 fn353 m353 g353 fn354 m354 g354 u354_l0 g354_l0 fn355 m355 g355 u355_l0 g355_l0 fn356 m356 g356 fn357 m357 g357 ps9 ps10 ps27 ps28 ps32 ps33 ps34 ps35 ps44 ps57 ps64 ps65 ps68 ps70 ps75 ps105 ps108 ps110 ps111 ps112 ps114 ps115 ps118 ps119 ps120 ps122 ps123 ps126 ps128 ps131 ps135 ps138 ps141 ps143 ps144 ps149 ps150 ps166 ps174 ps177 ps178 ps179 ps181 ps187 ps188 ps191 ps192 ps193 ps194 ps195 ps196 ps199 ps200 ps201 ps202 ps220 ps222 ps223 ps227 ps233 ps250 ps251 ps252 ps253 ps261 ps287 ps299 ps306 ps333 ps334 ps335 ps336 ps337 ps346 ps348 ps350 ps351 ps352 ps357 CxT1 CxT3 CxT4 CxT5 CxT9 CxT20 CxT22 CxT23 CxT24 CxT25 CxT27 CxT29 CxT31 CxT33 CxT34 CxT36 CxT37 CxT38 CxT39 CxT40 CxT42 CxT44 CxT45 CxT46 CxT47 CxT48 CxT50 CxT51 CxT52 CxT54 CxT55 CxT56 CxT58 CxT60 CxT62 CxT63 CxT65 CxT68 CxT69 CxT75 CxT91 CxT93 CxT95 CxT96 CxT97 CxT99 CxT101 CxT107 CxT112 CxT114 CxT115 CxT116 CxT118 CxT119 CxT121 CxT123 CxT125 CxT127 CxT163 CxT167 CxT169 CxT171 CxT172 CxT177 CxT179 CxT181 CxT185 CxT189 CxT199 CxT211 CxT240 CxT253 CxT254 CxT282 CxT283 CxT285 CxT286 CxT296 CxT299 CxT309 CxT316 CxT318 CxT320 CxT323 CxT325 CxT328 CxT329 CxT332 CxT335 CxT340 CxT342 CxT344 CxT351 CxT352 CxT355 CxT358 CxT359 CxT360 CxT362 CxT364 CxT369 CxT371 CxT372 CxT374 CxT376 CxT393 CxT400 CxT405 CxT428 CxT430 CxT433 CxT444 CxT447 ty1 ty3 ty4 ty5 ty9 ty20 ty22 ty23 ty24 ty25 ty27 ty29 ty31 ty33 ty34 ty36 ty37 ty38 ty39 ty40 ty42 ty44 ty45 ty46 ty47 ty48 ty50 ty51 ty52 ty54 ty55 ty56 ty58 ty60 ty62 ty63 ty65 ty68 ty69 ty75 ty91 ty93 ty95 ty96 ty97 ty99 ty101 ty107 ty112 ty114 ty115 ty116 ty118 ty119 ty121 ty123 ty125 ty127 ty163 ty167 ty169 ty171 ty172 ty177 ty179 ty181 ty185 ty189 ty199 ty211 ty240 ty253 ty254 ty282 ty283 ty285 ty286 ty296 ty299 ty309 ty316 ty318 ty320 ty323 ty325 ty328 ty329 ty332 ty335 ty340 ty342 ty344 ty351 ty352 ty355 ty358 ty359 ty360 ty362 ty364 ty369 ty371 ty372 ty374 ty376 ty393 ty400 ty405 ty428 ty430 ty433 ty444 ty447 CxG9 CxG0 CxG4 CxG2
abbrev Sv(s:ByteArray):A:=.v (.string s)
abbrev I8(n:Int):A:=.v (.int .u8 n)
abbrev I64(n:Int):A:=.v (.int .i64 n)
abbrev Bo(b:Bool):A:=.v (.bool b)
theorem size_data(s:ByteArray):s.data.toList.length=s.size:=rfl
theorem i64max:IntKind.i64.max=9223372036854775807:=rfl
theorem sz_mk(l:Array UInt8):(ByteArray.mk l).size=l.size:=rfl
theorem sz_arr(l:List UInt8):(Array.mk l).size=l.length:=rfl
attribute [go_sem] i64max sz_mk sz_arr ByteArray.size_append if_false
end Go.Proofs.YtpdphobnchajbaaGreatDoor.Ev
