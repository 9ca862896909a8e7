/- The evaluator's context: types and bodies, and that they are the program's. Printed by wip/ev/gen/ctx.py. -/
import Derived.Test.YtpdphobnchajbaaGreatDoorK04
import Derived.Test.YtpdphobnchajbaaGreatDoorChecked
set_option linter.all false
namespace Go.Proofs.YtpdphobnchajbaaGreatDoor.Ev
open Go Go.RowKit
set_option maxRecDepth 100000
structure aYQ(a:Option Ty) where
 t:Ty
 h:a=some t
abbrev TG(i:Nat):=aYQ (rY Tryz.prog i)
def th1:TG 1:=⟨_,by conv=>lhs;cbv⟩
def th3:TG 3:=⟨_,by conv=>lhs;cbv⟩
def th4:TG 4:=⟨_,by conv=>lhs;cbv⟩
def th5:TG 5:=⟨_,by conv=>lhs;cbv⟩
def th9:TG 9:=⟨_,by conv=>lhs;cbv⟩
def aGu:TG 20:=⟨_,by conv=>lhs;cbv⟩
def aH8:TG 22:=⟨_,by conv=>lhs;cbv⟩
def aJX:TG 23:=⟨_,by conv=>lhs;cbv⟩
def aIE:TG 24:=⟨_,by conv=>lhs;cbv⟩
def aKs:TG 25:=⟨_,by conv=>lhs;cbv⟩
def aGF:TG 27:=⟨_,by conv=>lhs;cbv⟩
def aJB:TG 29:=⟨_,by conv=>lhs;cbv⟩
def aGY:TG 31:=⟨_,by conv=>lhs;cbv⟩
def aGG:TG 33:=⟨_,by conv=>lhs;cbv⟩
def aJ6:TG 34:=⟨_,by conv=>lhs;cbv⟩
def aJs:TG 36:=⟨_,by conv=>lhs;cbv⟩
def aFe:Ty:=⟨(.array 14 36),42,56,(List.replicate 14 ([(.int .u8 0),(.int .u8 0),(.int .u16 0)]:List Value)).flatten,true⟩
def aG2:Ty:=⟨(.array 12 37),504,672,(List.replicate 168 ([(.int .u8 0),(.int .u8 0),(.int .u16 0)]:List Value)).flatten,true⟩
def aJS:TG 39:=⟨_,by conv=>lhs;cbv⟩
def aEV:Ty:=⟨(.array 4 39),60,80,(List.replicate 20 ([(.int .u8 0),(.int .u8 0),(.int .u16 0)]:List Value)).flatten,true⟩
def aG8:Ty:=⟨(.struct [(9,0,true),(38,1,true),(40,505,true)]),565,768,[(.string ⟨#[]⟩)]++(List.replicate 188 ([(.int .u8 0),(.int .u8 0),(.int .u16 0)]:List Value)).flatten,true⟩
def aIQ:Ty:=⟨(.struct [(29,0,true),(31,10,true),(33,15,true),(42,20,true)]),585,960,[(.string ⟨#[]⟩),(.slice none 0 0),(.slice none 0 0),(.slice none 0 0),(.int .u8 0),(.int .u8 0),(.int .u8 0),(.int .u8 0),(.int .u8 0),(.slice none 0 0),(.int .i64 0),(.int .i64 0),(.int .i64 0),(.int .i64 0),(.int .i64 0),(.int .u8 0),(.int .u8 0),(.int .u8 0),(.int .i64 0),(.bool false),(.string ⟨#[]⟩)]++(List.replicate 188 ([(.int .u8 0),(.int .u8 0),(.int .u16 0)]:List Value)).flatten,true⟩
def aEd:TG 45:=⟨_,by conv=>lhs;cbv⟩
def aKm:TG 46:=⟨_,by conv=>lhs;cbv⟩
def aJc:TG 47:=⟨_,by conv=>lhs;cbv⟩
def aHe:TG 48:=⟨_,by conv=>lhs;cbv⟩
def aEy:TG 50:=⟨_,by conv=>lhs;cbv⟩
def aIC:TG 51:=⟨_,by conv=>lhs;cbv⟩
def aHg:TG 52:=⟨_,by conv=>lhs;cbv⟩
def aF5:TG 54:=⟨_,by conv=>lhs;cbv⟩
def aIt:Ty:=⟨(.array 6 54),66,240,[(.int .u8 0),(.int .u8 0),(.int .u8 0),(.int .u64 0),(.bool false),(.int .u8 0),(.int .u8 0),(.int .u8 0),(.int .u8 0),(.int .u8 0),(.int .u8 0),(.int .u8 0),(.int .u8 0),(.int .u8 0),(.int .u64 0),(.bool false),(.int .u8 0),(.int .u8 0),(.int .u8 0),(.int .u8 0),(.int .u8 0),(.int .u8 0),(.int .u8 0),(.int .u8 0),(.int .u8 0),(.int .u64 0),(.bool false),(.int .u8 0),(.int .u8 0),(.int .u8 0),(.int .u8 0),(.int .u8 0),(.int .u8 0),(.int .u8 0),(.int .u8 0),(.int .u8 0),(.int .u64 0),(.bool false),(.int .u8 0),(.int .u8 0),(.int .u8 0),(.int .u8 0),(.int .u8 0),(.int .u8 0),(.int .u8 0),(.int .u8 0),(.int .u8 0),(.int .u64 0),(.bool false),(.int .u8 0),(.int .u8 0),(.int .u8 0),(.int .u8 0),(.int .u8 0),(.int .u8 0),(.int .u8 0),(.int .u8 0),(.int .u8 0),(.int .u64 0),(.bool false)]++(List.replicate 6 ([(.int .u8 0)]:List Value)).flatten,true⟩
def KH:TG 56:=⟨_,by conv=>lhs;cbv⟩
def aFN:TG 58:=⟨_,by conv=>lhs;cbv⟩
def WT:TG 60:=⟨_,by conv=>lhs;cbv⟩
def aKo:TG 62:=⟨_,by conv=>lhs;cbv⟩
def aJZ:TG 63:=⟨_,by conv=>lhs;cbv⟩
def aJt:TG 65:=⟨_,by conv=>lhs;cbv⟩
def aEc:TG 68:=⟨_,by conv=>lhs;cbv⟩
def aIA:TG 69:=⟨_,by conv=>lhs;cbv⟩
def aHC:TG 75:=⟨_,by conv=>lhs;cbv⟩
def aFi:TG 77:=⟨_,by conv=>lhs;cbv⟩
def aEi:TG 91:=⟨_,by conv=>lhs;cbv⟩
def aHq:TG 93:=⟨_,by conv=>lhs;cbv⟩
def aHH:TG 95:=⟨_,by conv=>lhs;cbv⟩
def aIG:TG 96:=⟨_,by conv=>lhs;cbv⟩
def MO:TG 97:=⟨_,by conv=>lhs;cbv⟩
def aIM:TG 99:=⟨_,by conv=>lhs;cbv⟩
def RY:TG 101:=⟨_,by conv=>lhs;cbv⟩
def SQ:TG 107:=⟨_,by conv=>lhs;cbv⟩
def RK:TG 112:=⟨_,by conv=>lhs;cbv⟩
def PO:TG 114:=⟨_,by conv=>lhs;cbv⟩
def OW:Ty:=⟨(.array 4 114),32,32,[(.int .u8 0),(.int .u8 0),(.int .i8 0),(.bool false),(.int .u8 0),(.int .u8 0),(.int .u8 0),(.int .u8 0),(.int .u8 0),(.int .u8 0),(.int .i8 0),(.bool false),(.int .u8 0),(.int .u8 0),(.int .u8 0),(.int .u8 0),(.int .u8 0),(.int .u8 0),(.int .i8 0),(.bool false),(.int .u8 0),(.int .u8 0),(.int .u8 0),(.int .u8 0),(.int .u8 0),(.int .u8 0),(.int .i8 0),(.bool false)]++(List.replicate 4 ([(.int .u8 0)]:List Value)).flatten,true⟩
def SA:Ty:=⟨(.array 4 115),128,128,[(.int .u8 0),(.int .u8 0),(.int .i8 0),(.bool false),(.int .u8 0),(.int .u8 0),(.int .u8 0),(.int .u8 0),(.int .u8 0),(.int .u8 0),(.int .i8 0),(.bool false),(.int .u8 0),(.int .u8 0),(.int .u8 0),(.int .u8 0),(.int .u8 0),(.int .u8 0),(.int .i8 0),(.bool false),(.int .u8 0),(.int .u8 0),(.int .u8 0),(.int .u8 0),(.int .u8 0),(.int .u8 0),(.int .i8 0),(.bool false),(.int .u8 0),(.int .u8 0),(.int .u8 0),(.int .u8 0),(.int .u8 0),(.int .u8 0),(.int .i8 0),(.bool false),(.int .u8 0),(.int .u8 0),(.int .u8 0),(.int .u8 0),(.int .u8 0),(.int .u8 0),(.int .i8 0),(.bool false),(.int .u8 0),(.int .u8 0),(.int .u8 0),(.int .u8 0),(.int .u8 0),(.int .u8 0),(.int .i8 0),(.bool false),(.int .u8 0),(.int .u8 0),(.int .u8 0),(.int .u8 0),(.int .u8 0),(.int .u8 0),(.int .i8 0),(.bool false),(.int .u8 0),(.int .u8 0),(.int .u8 0),(.int .u8 0),(.int .u8 0),(.int .u8 0),(.int .i8 0),(.bool false),(.int .u8 0),(.int .u8 0),(.int .u8 0),(.int .u8 0),(.int .u8 0),(.int .u8 0),(.int .i8 0),(.bool false),(.int .u8 0),(.int .u8 0),(.int .u8 0),(.int .u8 0),(.int .u8 0),(.int .u8 0),(.int .i8 0),(.bool false),(.int .u8 0),(.int .u8 0),(.int .u8 0),(.int .u8 0),(.int .u8 0),(.int .u8 0),(.int .i8 0),(.bool false),(.int .u8 0),(.int .u8 0),(.int .u8 0),(.int .u8 0),(.int .u8 0),(.int .u8 0),(.int .i8 0),(.bool false),(.int .u8 0),(.int .u8 0),(.int .u8 0),(.int .u8 0),(.int .u8 0),(.int .u8 0),(.int .i8 0),(.bool false),(.int .u8 0),(.int .u8 0),(.int .u8 0),(.int .u8 0),(.int .u8 0),(.int .u8 0),(.int .i8 0),(.bool false),(.int .u8 0),(.int .u8 0),(.int .u8 0),(.int .u8 0),(.int .u8 0),(.int .u8 0),(.int .i8 0),(.bool false)]++(List.replicate 4 ([(.int .u8 0)]:List Value)).flatten,true⟩
def PA:TG 118:=⟨_,by conv=>lhs;cbv⟩
def T4:TG 119:=⟨_,by conv=>lhs;cbv⟩
def RQ:TG 121:=⟨_,by conv=>lhs;cbv⟩
def R7:Ty:=⟨(.struct [(116,0,true),(119,128,true),(121,156,true)]),160,232,[(.int .u8 0),(.int .u8 0),(.int .i8 0),(.bool false),(.int .u8 0),(.int .u8 0),(.int .u8 0),(.int .u8 0),(.int .u8 0),(.int .u8 0),(.int .i8 0),(.bool false),(.int .u8 0),(.int .u8 0),(.int .u8 0),(.int .u8 0),(.int .u8 0),(.int .u8 0),(.int .i8 0),(.bool false),(.int .u8 0),(.int .u8 0),(.int .u8 0),(.int .u8 0),(.int .u8 0),(.int .u8 0),(.int .i8 0),(.bool false),(.int .u8 0),(.int .u8 0),(.int .u8 0),(.int .u8 0),(.int .u8 0),(.int .u8 0),(.int .i8 0),(.bool false),(.int .u8 0),(.int .u8 0),(.int .u8 0),(.int .u8 0),(.int .u8 0),(.int .u8 0),(.int .i8 0),(.bool false),(.int .u8 0),(.int .u8 0),(.int .u8 0),(.int .u8 0),(.int .u8 0),(.int .u8 0),(.int .i8 0),(.bool false),(.int .u8 0),(.int .u8 0),(.int .u8 0),(.int .u8 0),(.int .u8 0),(.int .u8 0),(.int .i8 0),(.bool false),(.int .u8 0),(.int .u8 0),(.int .u8 0),(.int .u8 0),(.int .u8 0),(.int .u8 0),(.int .i8 0),(.bool false),(.int .u8 0),(.int .u8 0),(.int .u8 0),(.int .u8 0),(.int .u8 0),(.int .u8 0),(.int .i8 0),(.bool false),(.int .u8 0),(.int .u8 0),(.int .u8 0),(.int .u8 0),(.int .u8 0),(.int .u8 0),(.int .i8 0),(.bool false),(.int .u8 0),(.int .u8 0),(.int .u8 0),(.int .u8 0),(.int .u8 0),(.int .u8 0),(.int .i8 0),(.bool false),(.int .u8 0),(.int .u8 0),(.int .u8 0),(.int .u8 0),(.int .u8 0),(.int .u8 0),(.int .i8 0),(.bool false),(.int .u8 0),(.int .u8 0),(.int .u8 0),(.int .u8 0),(.int .u8 0),(.int .u8 0),(.int .i8 0),(.bool false),(.int .u8 0),(.int .u8 0),(.int .u8 0),(.int .u8 0),(.int .u8 0),(.int .u8 0),(.int .i8 0),(.bool false),(.int .u8 0),(.int .u8 0),(.int .u8 0),(.int .u8 0),(.int .u8 0),(.int .u8 0),(.int .i8 0),(.bool false),(.int .u8 0),(.int .u8 0),(.int .u8 0),(.int .u8 0),(.int .u8 0),(.int .i64 0),(.int .u8 0),(.int .u8 0),(.int .u8 0),(.int .u8 0),(.int .u8 0),(.int .u8 0),(.int .i64 0),(.int .u8 0),(.int .u8 0),(.int .u8 0),(.int .u8 0),(.int .u8 0),(.int .u8 0),(.int .i64 0),(.int .u8 0),(.int .u8 0),(.int .u8 0),(.int .u8 0),(.int .u8 0),(.int .u8 0),(.int .i64 0)]++(List.replicate 9 ([(.int .u8 0)]:List Value)).flatten,true⟩
def P5:TG 125:=⟨_,by conv=>lhs;cbv⟩
def PD:TG 127:=⟨_,by conv=>lhs;cbv⟩
def TX:TG 130:=⟨_,by conv=>lhs;cbv⟩
def RA:TG 131:=⟨_,by conv=>lhs;cbv⟩
def P7:Ty:=⟨(.struct [(77,0,true),(44,72,true)]),657,1328,[(.slice none 0 0),(.slice none 0 0),(.slice none 0 0),(.int .u8 0),(.int .u8 0),(.int .u8 0),(.int .u64 0),(.bool false),(.int .u8 0),(.int .u8 0),(.int .u8 0),(.int .u8 0),(.int .u8 0),(.int .u8 0),(.int .u8 0),(.int .u8 0),(.int .u8 0),(.int .u64 0),(.bool false),(.int .u8 0),(.int .u8 0),(.int .u8 0),(.int .u8 0),(.int .u8 0),(.int .u8 0),(.int .u8 0),(.int .u8 0),(.int .u8 0),(.int .u64 0),(.bool false),(.int .u8 0),(.int .u8 0),(.int .u8 0),(.int .u8 0),(.int .u8 0),(.int .u8 0),(.int .u8 0),(.int .u8 0),(.int .u8 0),(.int .u64 0),(.bool false),(.int .u8 0),(.int .u8 0),(.int .u8 0),(.int .u8 0),(.int .u8 0),(.int .u8 0),(.int .u8 0),(.int .u8 0),(.int .u8 0),(.int .u64 0),(.bool false),(.int .u8 0),(.int .u8 0),(.int .u8 0),(.int .u8 0),(.int .u8 0),(.int .u8 0),(.int .u8 0),(.int .u8 0),(.int .u8 0),(.int .u64 0),(.bool false),(.int .u8 0),(.int .u8 0),(.int .u8 0),(.int .u8 0),(.int .u8 0),(.int .u8 0),(.slice none 0 0),(.slice none 0 0),(.int .i64 0),(.string ⟨#[]⟩),(.slice none 0 0),(.slice none 0 0),(.slice none 0 0),(.int .u8 0),(.int .u8 0),(.int .u8 0),(.int .u8 0),(.int .u8 0),(.slice none 0 0),(.int .i64 0),(.int .i64 0),(.int .i64 0),(.int .i64 0),(.int .i64 0),(.int .u8 0),(.int .u8 0),(.int .u8 0),(.int .i64 0),(.bool false),(.string ⟨#[]⟩)]++(List.replicate 188 ([(.int .u8 0),(.int .u8 0),(.int .u16 0)]:List Value)).flatten,true⟩
def QO:TG 144:=⟨_,by conv=>lhs;cbv⟩
def Q7:TG 146:=⟨_,by conv=>lhs;cbv⟩
def PX:TG 148:=⟨_,by conv=>lhs;cbv⟩
def QX:TG 154:=⟨_,by conv=>lhs;cbv⟩
def S8:TG 163:=⟨_,by conv=>lhs;cbv⟩
def T7:TG 167:=⟨_,by conv=>lhs;cbv⟩
def SL:TG 169:=⟨_,by conv=>lhs;cbv⟩
def O3:TG 171:=⟨_,by conv=>lhs;cbv⟩
def OP:TG 172:=⟨_,by conv=>lhs;cbv⟩
def TZ:TG 177:=⟨_,by conv=>lhs;cbv⟩
def UB:TG 179:=⟨_,by conv=>lhs;cbv⟩
def OO:TG 181:=⟨_,by conv=>lhs;cbv⟩
def OM:TG 185:=⟨_,by conv=>lhs;cbv⟩
def B3:TG 189:=⟨_,by conv=>lhs;cbv⟩
def PR:TG 199:=⟨_,by conv=>lhs;cbv⟩
def SD:TG 211:=⟨_,by conv=>lhs;cbv⟩
def RB:TG 213:=⟨_,by conv=>lhs;cbv⟩
def OL:TG 215:=⟨_,by conv=>lhs;cbv⟩
def RD:TG 217:=⟨_,by conv=>lhs;cbv⟩
def P9:TG 240:=⟨_,by conv=>lhs;cbv⟩
def T6:TG 253:=⟨_,by conv=>lhs;cbv⟩
def SR:TG 254:=⟨_,by conv=>lhs;cbv⟩
def Q2:TG 261:=⟨_,by conv=>lhs;cbv⟩
def RO:TG 265:=⟨_,by conv=>lhs;cbv⟩
def RU:TG 282:=⟨_,by conv=>lhs;cbv⟩
def P1:TG 283:=⟨_,by conv=>lhs;cbv⟩
def SW:TG 285:=⟨_,by conv=>lhs;cbv⟩
def O7:TG 286:=⟨_,by conv=>lhs;cbv⟩
def RW:TG 296:=⟨_,by conv=>lhs;cbv⟩
def PL:TG 299:=⟨_,by conv=>lhs;cbv⟩
def SF:TG 309:=⟨_,by conv=>lhs;cbv⟩
def QJ:TG 316:=⟨_,by conv=>lhs;cbv⟩
def OE:TG 318:=⟨_,by conv=>lhs;cbv⟩
def SE:TG 320:=⟨_,by conv=>lhs;cbv⟩
def PT:TG 323:=⟨_,by conv=>lhs;cbv⟩
def QB:TG 325:=⟨_,by conv=>lhs;cbv⟩
def RZ:TG 328:=⟨_,by conv=>lhs;cbv⟩
def O1:TG 329:=⟨_,by conv=>lhs;cbv⟩
def TL:TG 332:=⟨_,by conv=>lhs;cbv⟩
def TM:TG 335:=⟨_,by conv=>lhs;cbv⟩
def RH:TG 340:=⟨_,by conv=>lhs;cbv⟩
def OZ:TG 342:=⟨_,by conv=>lhs;cbv⟩
def PQ:TG 344:=⟨_,by conv=>lhs;cbv⟩
def SX:TG 351:=⟨_,by conv=>lhs;cbv⟩
def TO:TG 352:=⟨_,by conv=>lhs;cbv⟩
def OT:TG 355:=⟨_,by conv=>lhs;cbv⟩
def Q3:TG 358:=⟨_,by conv=>lhs;cbv⟩
def OG:TG 359:=⟨_,by conv=>lhs;cbv⟩
def RN:TG 360:=⟨_,by conv=>lhs;cbv⟩
def O4:TG 362:=⟨_,by conv=>lhs;cbv⟩
def Q6:TG 364:=⟨_,by conv=>lhs;cbv⟩
def S9:TG 369:=⟨_,by conv=>lhs;cbv⟩
def Q8:TG 371:=⟨_,by conv=>lhs;cbv⟩
def SO:TG 372:=⟨_,by conv=>lhs;cbv⟩
def TW:TG 374:=⟨_,by conv=>lhs;cbv⟩
def PG:TG 376:=⟨_,by conv=>lhs;cbv⟩
def TS:TG 393:=⟨_,by conv=>lhs;cbv⟩
def R6:TG 400:=⟨_,by conv=>lhs;cbv⟩
def SU:TG 405:=⟨_,by conv=>lhs;cbv⟩
def TH:TG 428:=⟨_,by conv=>lhs;cbv⟩
def TU:TG 430:=⟨_,by conv=>lhs;cbv⟩
def R8:TG 433:=⟨_,by conv=>lhs;cbv⟩
def RC:TG 444:=⟨_,by conv=>lhs;cbv⟩
def Q4:Ty:=⟨(.array 64 5),64,64,(List.replicate 64 ([(.int .u8 0)]:List Value)).flatten,true⟩
def aN:List Nat:=[29,30,31,36,38,40,41,51,52,53,54,58,59,60,61,62,63,66,67,69,71,72,74,78,79,83,91,93,97,102,103,104,106,107,109,113,116,117,121,124,127,129,130,132,133,134,136,137,139,140,142,145,146,148,161,162,163,164,165,167,168,169,170,171,172,173,175,180,182,183,184,185,186,189,190,197,198,203,204,210,212,218,221,224,228,229,230,231,234,235,236,237,238,239,240,241,242,243,244,245,246,247,248,249,254,255,256,257,258,259,260,262,263,264,285,286,288,289,290,291,292,293,294,295,296,297,298,302,303,304,305,308,309,312,315,316,331,332,339,340,341,342,344,349,353,354,355,356]
def kpL(a b:List Nat)(l:List (List Nat))(i:Nat):List Nat:=bif Nat.beq i 1000000 then a else bif Nat.beq i 2000000 then b else l.getD i []
def Z9:Operand->Nat|.tmp t=>1<<<t|_=>0
def OQ(l:List (Nat×Nat))(i:Nat):Nat:=match l with|[]=>0|p::r=>bif Nat.beq p.1 i then p.2 else OQ r i
def aWe(o:Oper)(l:Nat):Nat:=match o.dst with|some d=>bif Nat.testBit l d then l-1<<<d else l|none=>l
def aLq(ops:List Oper)(l:Nat):List Oper->Nat|[]=>l|o::r=>let l:=aLq ops l r;let l:=o.op.operands.toList.foldl (fun l x=>l|||Z9 x) (aWe o l);match o.guard with|some (g,_)=>(match(ops[g]?).bind (·.dst)with|some t=>l|||1<<<t|none=>l)|none=>l
def live:Code->List (Nat×Nat)->Nat->Nat->List (Nat×Nat)->Nat×List (Nat×Nat)|.exit i,xs,_,_,c=>(OQ xs i,c)|.ret,_,r,_,c=>(r,c)|.seq a b,xs,r,out,c=>let p:=live b xs r out c;live a xs r p.1 p.2|.cond x a b,xs,r,out,c=>let p:=live a xs r out c;let q:=live b xs r out p.2;(Z9 x|||(p.1|||q.1),q.2)|.block i a,xs,r,out,c=>live a ((i,out)::xs) r out c|.loop a,xs,r,_,c=>let p:=live a xs r 0 c;live a xs r p.1 p.2|.region id ops _,_,_,out,c=>let l:=aLq ops.toList out ops.toList;(l,(id,l)::c)|.rangeFunc g ps a b,xs,r,out,c=>let p:=live b [] 0 0 c;let q:=live a [] 0 p.1 p.2;let s:=ps.toList.foldl (fun l t=>bif Nat.testBit l t then l-1<<<t else l) q.1;(Z9 g|||(s|||xs.foldl (fun l e=>l|||e.2) (out|||r)),(2000000,OQ q.2 2000000|||s)::q.2)|_,_,_,out,c=>(out,c)
def J7(f:Func):Code:=f.body.getD .skip
def aVc(f:Func):List (Nat×Nat):=let r:=f.results.toList.foldl (fun l x=>match x with|.tmp t=>l|||1<<<t|.cell p _=>l|||1<<<p) 0;(live (J7 f) [] r r []).2
def aAF(n:Nat):Nat->Nat->List Nat|0,_=>[]|f+1,k=>bif Nat.testBit n k then k::aAF n f (k+1)else aAF n f (k+1)
def kq(f:Func):Nat->List Nat:=let l:=aVc f;fun i=>bif Nat.beq i 1000000 then aN else aAF (OQ l i) f.ntmps 0
structure GF(nt:Nat)(res:List ResultVar)(md:D3)(F:Func)(kp:Nat→List Nat:=kq F) where
 m:M
 h:cmp nt kp (J7 F)=m
section
variable{nt:Nat}{res:List ResultVar}{md:D3}{F:Func}{kp:Nat->List Nat}
abbrev GF.fn(g:GF nt res md F kp):MFn:=⟨nt,res,g.m,md⟩
theorem fk{f:FuncId}(g:GF nt res md F kp)(h:Tryz.prog.funcs[f]?=some F)(h1:F.body=some (J7 F):=by rfl)(h2:F.ntmps=nt:=by rfl)(h3:F.results.toList=res:=by kernel_rfl)(h4:(F.name=="runtime.NumGoroutine")=false:=by kernel_rfl):aQj Tryz.prog f g.fn:=⟨F,_,kp,h,h1,h2,h3,h4,g.h⟩
end
attribute [go_sem] GF.fn
structure Got(a:M) where
 m:M
 h:a=m
abbrev UL(a b:M):Prop:=∀{C:Ctx}{k:List It}{st:St}{Q:Ex->St->Prop},aW C (.code a::k) st Q↔aW C (.code b::k) st Q
theorem ul{a:M}{C:Ctx}{k:List It}{st:St}{Q:Ex->St->Prop}:aW C (.code a::k) st Q↔aW C (.code a::k) st Q:=Iff.rfl
def pC:M->List M|.seq a b=>pC a++pC b|.cond _ a b=>pC a++pC b|.block _ a=>pC a|.loop a=>a::pC a|.rf _ _ _ _ a b=>(a::pC a)++(b::pC b)|_=>[]
abbrev lpM(a:M)(k:Nat):M:=(pC a).getD k .bad
def g5:GF 66 [.tmp 4] .shut Tryz.f5 (kpL aN [] [[0,1],[1,2],[],[1,2],[],[1,2],[1,2,5],[1,2,5,6,7],[1,2,5,7,8,9,10]]):=⟨_,by conv=>lhs;reduce⟩
def g8:GF 36 [.tmp 4] .norm Tryz.f8 (kpL aN [5,6] [[0,1],[2,3,4],[],[2,3,4],[4,5],[4,5,6],[5,6,19],[5,6,7],[6,7,9],[6,7],[6,7,26],[6,7,26],[6,7,26],[6]]):=⟨_,by conv=>lhs;reduce⟩
def XK:Got (lpM g8.m 0):=⟨_,by conv=>lhs;cbv⟩
def CJ:M:=XK.m
theorem aWs:UL CJ XK.m:=ul
def ZH:Got (lpM g8.m 1):=⟨_,by conv=>lhs;cbv⟩
def B2:M:=ZH.m
theorem aS3:UL B2 ZH.m:=ul
def g9:GF 61 [.tmp 2] .shut Tryz.f9:=⟨_,by conv=>lhs;cbv⟩
def g10:GF 77 [.tmp 4] .shut Tryz.f10:=⟨_,by conv=>lhs;cbv⟩
def NK:Got (lpM g10.m 0):=⟨_,by conv=>lhs;cbv⟩
def YJ:M:=NK.m
theorem aMU:UL YJ NK.m:=ul
def MH:Got (lpM g10.m 1):=⟨_,by conv=>lhs;cbv⟩
def MU:M:=MH.m
theorem aOR:UL MU MH.m:=ul
def aBo:Got (lpM g10.m 2):=⟨_,by conv=>lhs;cbv⟩
def aMX:M:=aBo.m
theorem aYL:UL aMX aBo.m:=ul
def g11:GF 53 [.cell 6 58,.tmp 7,.tmp 8] .norm Tryz.f11 (kpL aN [] [[0,1,2],[3,4,5,6],[6],[3,4,5,6],[6],[3,4,5,6],[5,6,9],[6,9,10,11],[6,11],[6,9,10],[6,9],[6],[6,9]]):=⟨_,by conv=>lhs;reduce⟩
def g14:GF 43 [.tmp 0] .shut Tryz.f14:=⟨_,by conv=>lhs;cbv⟩
def g15:GF 7 [.tmp 2] .shut Tryz.f15:=⟨_,by conv=>lhs;cbv⟩
def g16:GF 64 [.cell 4 77] .norm Tryz.f16 (kpL aN [] [[0,1],[1,2,4],[1,2,4,5],[4,5],[1,2,4,5],[2,4,5,26,27,28],[2,4,5,26,27,28],[2,4,5,7,26,27,28],[2,4,5,7,8,26,27,28],[2,4,5,7,8,26,27,28],[2,4,5,8,9,26,27,28],[2,4,5,8,9,26,27,28],[2,4,5,8,9,26,27,28],[2,4,5,26,27,28],[4,5]]):=⟨_,by conv=>lhs;reduce⟩
def LE:Got (lpM g16.m 0):=⟨_,by conv=>lhs;cbv⟩
def M8:M:=LE.m
theorem aQW:UL M8 LE.m:=ul
def g17:GF 84 [.cell 2 58,.tmp 3] .norm Tryz.f17 (kpL aN [] [[0],[1,2],[2],[1,2],[1,2,4],[1,2,4,15,16],[1,2,4,15,16],[1,2,4,15,16],[1,2,4,15,16],[1,2,4],[1,2,4,39,40],[1,2,4,39,40],[1,2,4,5,39,40],[1,2,4,5,6,39,40],[1,2,4,5,6,39,40,46,47,48],[1,2,4,5,6,39,40,46,47,48],[1,2,4,5,6,8,39,40,46,47,48],[1,2,4,5,6,8,39,40,46,47,48],[1,2,4,5,6,39,40,46,47,48],[1,2,4,5,6,39,40],[1,2,4,39,40],[2,4]]):=⟨_,by conv=>lhs;reduce⟩
def YQ:Got (lpM g17.m 0):=⟨_,by conv=>lhs;cbv⟩
def aL9:M:=YQ.m
theorem aY8:UL aL9 YQ.m:=ul
def MG:Got (lpM g17.m 1):=⟨_,by conv=>lhs;cbv⟩
def aDq:M:=MG.m
theorem aPe:UL aDq MG.m:=ul
def LH:Got (lpM g17.m 2):=⟨_,by conv=>lhs;cbv⟩
def aBQ:M:=LH.m
theorem aQI:UL aBQ LH.m:=ul
def g18:GF 31 [.tmp 4] .shut Tryz.f18:=⟨_,by conv=>lhs;cbv⟩
def g19:GF 26 [.tmp 4] .shut Tryz.f19 (kpL aN [] [[0,1],[0,1],[],[0,1],[0,1,5],[0,1,5],[0,1,5],[],[]]):=⟨_,by conv=>lhs;reduce⟩
def KG:Got (lpM g19.m 0):=⟨_,by conv=>lhs;cbv⟩
def aAk:M:=KG.m
theorem aQi:UL aAk KG.m:=ul
def g21:GF 27 [.tmp 2,.tmp 3] .shut Tryz.f21:=⟨_,by conv=>lhs;cbv⟩
def NR:Got (lpM g21.m 0):=⟨_,by conv=>lhs;cbv⟩
def aBJ:M:=NR.m
theorem aQk:UL aBJ NR.m:=ul
def g22:GF 34 [.cell 2 65,.cell 3 3,.cell 4 69] .shut Tryz.f22 (kpL aN [2,3,4,5,6] [[0],[0,2,3,4],[0,2,3,4,5],[0,2,3,4,5,6],[2,3,4,5,6,13,14],[2,3,4,5,6,7,14],[2,3,4,5,6,7,8],[2,3,4,5,6,7,8],[2,3,4,5,6,8,9,10],[2,3,4,6],[5,9],[2,3,4,5]]):=⟨_,by conv=>lhs;reduce⟩
def NQ:Got (lpM g22.m 0):=⟨_,by conv=>lhs;cbv⟩
def MP:M:=NQ.m
theorem aOE:UL MP NQ.m:=ul
def JY:Got (lpM g22.m 1):=⟨_,by conv=>lhs;cbv⟩
def LR:M:=JY.m
theorem aPO:UL LR JY.m:=ul
def g23:GF 39 [.cell 4 77] .norm Tryz.f23:=⟨_,by conv=>lhs;cbv⟩
def NN:Got (lpM g23.m 0):=⟨_,by conv=>lhs;cbv⟩
def XL:M:=NN.m
theorem aML:UL XL NN.m:=ul
def g27:GF 45 [.tmp 4] .shut Tryz.f27:=⟨_,by conv=>lhs;cbv⟩
def MY:Got (lpM g27.m 0):=⟨_,by conv=>lhs;cbv⟩
def aAL:M:=MY.m
theorem aPP:UL aAL MY.m:=ul
def g28:GF 12 [.tmp 4] .shut Tryz.f28:=⟨_,by conv=>lhs;cbv⟩
def g29:GF 26 [.tmp 4] .pass Tryz.f29:=⟨_,by conv=>lhs;cbv⟩
def g30:GF 4 [.tmp 2] .pass Tryz.f30:=⟨_,by conv=>lhs;cbv⟩
def g31:GF 29 [.tmp 4,.tmp 5] .pass Tryz.f31 (kpL aN [] [[0,1],[0,3],[],[0,3],[3,6,7],[],[3,6]]):=⟨_,by conv=>lhs;reduce⟩
def g32:GF 15 [.tmp 6] .shut Tryz.f32:=⟨_,by conv=>lhs;cbv⟩
def g33:GF 18 [.tmp 2] .shut Tryz.f33:=⟨_,by conv=>lhs;cbv⟩
def aCo:Got (lpM g33.m 0):=⟨_,by conv=>lhs;cbv⟩
def aO2:M:=aCo.m
theorem aZk:UL aO2 aCo.m:=ul
def g34:GF 30 [.tmp 2] .shut Tryz.f34:=⟨_,by conv=>lhs;cbv⟩
def aBM:Got (lpM g34.m 0):=⟨_,by conv=>lhs;cbv⟩
def aNP:M:=aBM.m
theorem aYf:UL aNP aBM.m:=ul
def g35:GF 18 [.cell 2 4] .shut Tryz.f35 (kpL aN [1,2] [[0],[1,2],[2],[1,2],[1,2,9],[1,2,3],[2],[2]]):=⟨_,by conv=>lhs;reduce⟩
def M4:Got (lpM g35.m 0):=⟨_,by conv=>lhs;cbv⟩
def kT:M:=M4.m
theorem aRs:UL kT M4.m:=ul
def M9:Got (lpM g35.m 1):=⟨_,by conv=>lhs;cbv⟩
def kV:M:=M9.m
theorem aMK:UL kV M9.m:=ul
def g36:GF 36 [.cell 2 58] .pass Tryz.f36 (kpL aN [] [[0],[1,2],[1,2],[1,2,10,11],[1,2,10,11],[1,2,3,10,11],[1,2,10,11],[1,2],[1,2],[1,2]]):=⟨_,by conv=>lhs;reduce⟩
def MQ:Got (lpM g36.m 0):=⟨_,by conv=>lhs;cbv⟩
def aBn:M:=MQ.m
theorem aLM:UL aBn MQ.m:=ul
def g37:GF 21 [.cell 2 44] .shut Tryz.f37:=⟨_,by conv=>lhs;cbv⟩
def g38:GF 43 [.tmp 6] .pass Tryz.f38 (kpL aN [] [[0,1,2],[1,3,5],[],[1,3,5],[1,7],[7,8],[],[7,8],[7,8,9],[7,8],[7,8,9],[7,8,9,10],[7,8,9,10],[7,8,9,10],[7,8,9,10,11],[7,10,11],[8]]):=⟨_,by conv=>lhs;reduce⟩
def Y6:Got (lpM g38.m 0):=⟨_,by conv=>lhs;cbv⟩
def aRm:M:=Y6.m
theorem aZg:UL aRm Y6.m:=ul
def aCJ:Got (lpM g38.m 1):=⟨_,by conv=>lhs;cbv⟩
def aLR:M:=aCJ.m
theorem aYE:UL aLR aCJ.m:=ul
def g39:GF 17 [.tmp 2] .shut Tryz.f39:=⟨_,by conv=>lhs;cbv⟩
def g40:GF 27 [.tmp 2] .pass Tryz.f40:=⟨_,by conv=>lhs;cbv⟩
def g41:GF 58 [.tmp 4] .pass Tryz.f41 (kpL aN [] [[0,1],[0,3],[0,3,5,6,7],[0,5,6,7],[0,7],[],[0,5,6],[0,6],[]]):=⟨_,by conv=>lhs;reduce⟩
def g42:GF 2 [.cell 0 99] .norm Tryz.f42:=⟨_,by conv=>lhs;cbv⟩
def g43:GF 17 [.cell 4 123] .shut Tryz.f43:=⟨_,by conv=>lhs;cbv⟩
def g44:GF 16 [.tmp 2] .shut Tryz.f44:=⟨_,by conv=>lhs;cbv⟩
def g45:GF 25 [.tmp 4] .shut Tryz.f45 (kpL aN [7] [[0,1],[1,2,4],[1,4,5,6],[],[1,4,5],[1,4,5,7],[7,19],[7,8],[7]]):=⟨_,by conv=>lhs;reduce⟩
def aBu:Got (lpM g45.m 0):=⟨_,by conv=>lhs;cbv⟩
def aM3:M:=aBu.m
theorem aYI:UL aM3 aBu.m:=ul
def XY:Got (lpM g45.m 1):=⟨_,by conv=>lhs;cbv⟩
def aOj:M:=XY.m
theorem aYe:UL aOj XY.m:=ul
def g46:GF 23 [.cell 8 52] .shut Tryz.f46:=⟨_,by conv=>lhs;cbv⟩
def g47:GF 12 [.cell 6 54] .shut Tryz.f47 (kpL aN [] [[0,1,2],[0,1,5,6]]):=⟨_,by conv=>lhs;reduce⟩
def g48:GF 31 [.tmp 4] .shut Tryz.f48:=⟨_,by conv=>lhs;cbv⟩
def g49:GF 26 [.tmp 4] .shut Tryz.f49 (kpL aN [] [[0,1],[0,1],[],[0,1],[0,1,5],[0,1,5],[0,1,5],[],[]]):=⟨_,by conv=>lhs;reduce⟩
def KM:Got (lpM g49.m 0):=⟨_,by conv=>lhs;cbv⟩
def aBF:M:=KM.m
theorem aOD:UL aBF KM.m:=ul
def g50:GF 30 [.tmp 2,.tmp 3] .shut Tryz.f50:=⟨_,by conv=>lhs;cbv⟩
def g51:GF 19 [.tmp 4,.tmp 5] .pass Tryz.f51:=⟨_,by conv=>lhs;cbv⟩
def g52:GF 17 [.tmp 4] .pass Tryz.f52:=⟨_,by conv=>lhs;cbv⟩
def g53:GF 14 [.tmp 2] .pass Tryz.f53 (kpL aN [] [[0],[0]]):=⟨_,by conv=>lhs;reduce⟩
def g54:GF 4 [.tmp 2] .pass Tryz.f54:=⟨_,by conv=>lhs;cbv⟩
def g55:GF 75 [.cell 2 62,.tmp 3] .shut Tryz.f55:=⟨_,by conv=>lhs;cbv⟩
def aAr:Got (lpM g55.m 0):=⟨_,by conv=>lhs;cbv⟩
def aRZ:M:=aAr.m
theorem aX0:UL aRZ aAr.m:=ul
def g56:GF 54 [.cell 2 42,.tmp 3] .shut Tryz.f56:=⟨_,by conv=>lhs;cbv⟩
def aAd:Got (lpM g56.m 0):=⟨_,by conv=>lhs;cbv⟩
def aNZ:M:=aAd.m
theorem aYc:UL aNZ aAd.m:=ul
def Y7:Got (lpM g56.m 1):=⟨_,by conv=>lhs;cbv⟩
def aMs:M:=Y7.m
theorem aYK:UL aMs Y7.m:=ul
def YF:Got (lpM g56.m 2):=⟨_,by conv=>lhs;cbv⟩
def aP5:M:=YF.m
theorem aYw:UL aP5 YF.m:=ul
def aDa:Got (lpM g56.m 3):=⟨_,by conv=>lhs;cbv⟩
def aMp:M:=aDa.m
theorem aXO:UL aMp aDa.m:=ul
def g57:GF 41 [.tmp 4] .shut Tryz.f57 (kpL aN [] [[0,1],[1,2],[1,5],[1,5,6],[1,5,6],[1,5,6],[1,5]]):=⟨_,by conv=>lhs;reduce⟩
def JV:Got (lpM g57.m 0):=⟨_,by conv=>lhs;cbv⟩
def aAe:M:=JV.m
theorem aNQ:UL aAe JV.m:=ul
def g58:GF 46 [.tmp 4,.tmp 5] .pass Tryz.f58 (kpL aN [] [[0,1],[2,3],[2,6],[2,6,7],[2,6,7,28],[2,6,7],[2,6,7,28],[2,6,7],[2,6,7],[]]):=⟨_,by conv=>lhs;reduce⟩
def g59:GF 36 [.tmp 4,.tmp 5] .pass Tryz.f59:=⟨_,by conv=>lhs;cbv⟩
def g60:GF 47 [.tmp 4,.tmp 5] .pass Tryz.f60 (kpL aN [] [[0,1],[0,3],[0,3,6],[0,6,7,8,9,10]]):=⟨_,by conv=>lhs;reduce⟩
def g61:GF 76 [.tmp 4,.tmp 5] .pass Tryz.f61 (kpL aN [] [[0,1],[0,3],[0,3,6],[],[0,3,6],[0,3,6,8],[],[0,3,6],[0,6,9,10,11]]):=⟨_,by conv=>lhs;reduce⟩
def g62:GF 144 [.tmp 4,.tmp 5] .pass Tryz.f62 (kpL aN [] [[0,1],[2,3],[2,6],[2,6,7],[2,6,7,8],[],[2,6,7,8],[],[2,6,7,8],[2,6,9,11],[11],[2,6,9],[2,6,9],[2,6,9,12],[2,9,12,13,14,15,16],[2,9,16,17],[2,6,9],[2,6,9],[2,6,9,18,19,20],[]]):=⟨_,by conv=>lhs;reduce⟩
def g63:GF 96 [] .pass Tryz.f63 (kpL aN [] [[0,1],[0,1,3],[0,1,3,20,21],[0,1,3,20,21],[0,1,3,5,20,21],[0,1,3,5,20,21,24,25],[0,1,3,5,20,21,24,25],[0,1,3,5,6,20,21,24,25],[0,1,3,5,20,21,24,25],[0,1,3,20,21],[0,1,3],[0,1,36,37],[0,1,36,37],[0,1,7,36,37],[0,1,7,36,37,46,47],[0,1,7,36,37,46,47],[0,1,7,8,36,37,46,47],[0,1,7,36,37,46,47],[0,1,36,37],[0,1],[0,1,9],[0,1,9,69,70,71],[0,1,9,69,70,71],[0,1,9,11,69,70,71],[0,1,9,12,69,70,71],[0,1,9,12,69,70,71],[0,1,9,12,69,70,71],[0,1,9,69,70,71]]):=⟨_,by conv=>lhs;reduce⟩
def aDB:Got (lpM g63.m 0):=⟨_,by conv=>lhs;cbv⟩
def aPU:M:=aDB.m
theorem aXN:UL aPU aDB.m:=ul
def N5:Got (lpM g63.m 1):=⟨_,by conv=>lhs;cbv⟩
def aDr:M:=N5.m
theorem aPb:UL aDr N5.m:=ul
def KF:Got (lpM g63.m 2):=⟨_,by conv=>lhs;cbv⟩
def aAN:M:=KF.m
theorem aRU:UL aAN KF.m:=ul
def KU:Got (lpM g63.m 3):=⟨_,by conv=>lhs;cbv⟩
def XU:M:=KU.m
theorem aO7:UL XU KU.m:=ul
def NO:Got (lpM g63.m 4):=⟨_,by conv=>lhs;cbv⟩
def aCz:M:=NO.m
theorem aOz:UL aCz NO.m:=ul
def g64:GF 19 [.tmp 4] .norm Tryz.f64 (kpL aN [5] [[0,1],[0,1,4],[],[0,1,4],[0,1,4,5],[5,13],[5,6],[5]]):=⟨_,by conv=>lhs;reduce⟩
def KC:Got (lpM g64.m 0):=⟨_,by conv=>lhs;cbv⟩
def FE:M:=KC.m
theorem aNo:UL FE KC.m:=ul
def LC:Got (lpM g64.m 1):=⟨_,by conv=>lhs;cbv⟩
def EL:M:=LC.m
theorem aOf:UL EL LC.m:=ul
def g65:GF 9 [.tmp 4] .shut Tryz.f65:=⟨_,by conv=>lhs;cbv⟩
def g66:GF 59 [.tmp 4] .pass Tryz.f66 (kpL aN [] [[0,1],[0,3],[0,3,5],[0,3,5,23],[0,3,5,23],[0,3,5,23],[3,5],[0,3,5,23],[0,3,5],[3,23],[3],[]]):=⟨_,by conv=>lhs;reduce⟩
def g67:GF 18 [.tmp 2] .pass Tryz.f67:=⟨_,by conv=>lhs;cbv⟩
def g68:GF 32 [.tmp 2] .shut Tryz.f68:=⟨_,by conv=>lhs;cbv⟩
def LP:Got (lpM g68.m 0):=⟨_,by conv=>lhs;cbv⟩
def MN:M:=LP.m
theorem aMQ:UL MN LP.m:=ul
def g69:GF 1 [.tmp 0] .pass Tryz.f69:=⟨_,by conv=>lhs;cbv⟩
def g70:GF 42 [.tmp 4] .shut Tryz.f70:=⟨_,by conv=>lhs;cbv⟩
def g71:GF 27 [.tmp 4] .pass Tryz.f71 (kpL aN [] [[0,1],[1,2],[1,2],[1,2]]):=⟨_,by conv=>lhs;reduce⟩
def g72:GF 8 [.tmp 2] .pass Tryz.f72:=⟨_,by conv=>lhs;cbv⟩
def g73:GF 8 [.tmp 2] .norm Tryz.f73:=⟨_,by conv=>lhs;cbv⟩
def g74:GF 8 [.tmp 2] .pass Tryz.f74:=⟨_,by conv=>lhs;cbv⟩
def g75:GF 8 [.tmp 2] .norm Tryz.f75:=⟨_,by conv=>lhs;cbv⟩
def g76:GF 20 [.tmp 4] .shut Tryz.f76:=⟨_,by conv=>lhs;cbv⟩
def g78:GF 8 [.tmp 2] .pass Tryz.f78:=⟨_,by conv=>lhs;cbv⟩
def g79:GF 36 [.tmp 2] .pass Tryz.f79:=⟨_,by conv=>lhs;cbv⟩
def ZE:Got (lpM g79.m 0):=⟨_,by conv=>lhs;cbv⟩
def aO6:M:=ZE.m
theorem aYy:UL aO6 ZE.m:=ul
def ZD:Got (lpM g79.m 1):=⟨_,by conv=>lhs;cbv⟩
def aPL:M:=ZD.m
theorem aXJ:UL aPL ZD.m:=ul
def g80:GF 32 [.cell 4 123,.tmp 5] .shut Tryz.f80:=⟨_,by conv=>lhs;cbv⟩
def aAB:Got (lpM g80.m 0):=⟨_,by conv=>lhs;cbv⟩
def aOZ:M:=aAB.m
theorem aYA:UL aOZ aAB.m:=ul
def g81:GF 10 [.cell 2 199,.tmp 3] .shut Tryz.f81:=⟨_,by conv=>lhs;cbv⟩
def g82:GF 11 [.tmp 4] .shut Tryz.f82:=⟨_,by conv=>lhs;cbv⟩
def g83:GF 6 [.tmp 4] .pass Tryz.f83:=⟨_,by conv=>lhs;cbv⟩
def g84:GF 11 [.tmp 4] .shut Tryz.f84:=⟨_,by conv=>lhs;cbv⟩
def g85:GF 16 [.cell 4 50] .shut Tryz.f85:=⟨_,by conv=>lhs;cbv⟩
def g86:GF 27 [.tmp 4] .shut Tryz.f86 (kpL aN [] [[0,1],[0,1],[],[0,1],[0,1,5],[0,1,5],[0,1,5],[],[]]):=⟨_,by conv=>lhs;reduce⟩
def K0:Got (lpM g86.m 0):=⟨_,by conv=>lhs;cbv⟩
def aDy:M:=K0.m
theorem aPh:UL aDy K0.m:=ul
def g87:GF 26 [.tmp 4] .shut Tryz.f87 (kpL aN [] [[0,1],[0,1],[],[0,1],[0,1,5],[0,1,5],[0,1,5],[],[]]):=⟨_,by conv=>lhs;reduce⟩
def MK:Got (lpM g87.m 0):=⟨_,by conv=>lhs;cbv⟩
def XH:M:=MK.m
theorem aPR:UL XH MK.m:=ul
def g88:GF 26 [.tmp 4] .shut Tryz.f88 (kpL aN [] [[0,1],[0,1],[],[0,1],[0,1,5],[0,1,5],[0,1,5],[],[]]):=⟨_,by conv=>lhs;reduce⟩
def MZ:Got (lpM g88.m 0):=⟨_,by conv=>lhs;cbv⟩
def aCp:M:=MZ.m
theorem aME:UL aCp MZ.m:=ul
def g89:GF 6 [.tmp 2] .shut Tryz.f89:=⟨_,by conv=>lhs;cbv⟩
def g91:GF 21 [.tmp 3,.tmp 4] .pass Tryz.f91 (kpL aN [] [[0,1],[1,2]]):=⟨_,by conv=>lhs;reduce⟩
def g92:GF 12 [.tmp 2] .shut Tryz.f92:=⟨_,by conv=>lhs;cbv⟩
def g93:GF 24 [.tmp 3,.tmp 4] .pass Tryz.f93 (kpL aN [] [[0,1],[1,2]]):=⟨_,by conv=>lhs;reduce⟩
def g94:GF 19 [.tmp 2,.tmp 3] .shut Tryz.f94 (kpL aN [] [[0],[1]]):=⟨_,by conv=>lhs;reduce⟩
def g95:GF 88 [.tmp 2] .shut Tryz.f95 (kpL aN [] [[0],[1],[1,3],[1,3,4],[1,3,4],[1,3,4],[1,3,4],[1,3,4],[1,3,4],[1,3,4],[1,3,4],[1,3,4],[1,3,4],[1,3,4],[1,3,4],[1,3,4],[3,4,75,76],[3,4,75,76],[3,4,6,75,76],[3,4,75,76],[3]]):=⟨_,by conv=>lhs;reduce⟩
def aBd:Got (lpM g95.m 0):=⟨_,by conv=>lhs;cbv⟩
def aP4:M:=aBd.m
theorem aYn:UL aP4 aBd.m:=ul
def g97:GF 20 [] .pass Tryz.f97:=⟨_,by conv=>lhs;cbv⟩
def MC:Got (lpM g97.m 0):=⟨_,by conv=>lhs;cbv⟩
def aA6:M:=MC.m
theorem aMj:UL aA6 MC.m:=ul
def g98:GF 13 [.tmp 4,.tmp 5,.tmp 6] .shut Tryz.f98:=⟨_,by conv=>lhs;cbv⟩
def g99:GF 22 [.cell 2 60,.tmp 3] .shut Tryz.f99:=⟨_,by conv=>lhs;cbv⟩
def aMB:GF 10 [.tmp 2] .shut Tryz.f101:=⟨_,by conv=>lhs;cbv⟩
def aQ0:GF 41 [] .pass Tryz.f102:=⟨_,by conv=>lhs;cbv⟩
def VT:GF 95 [] .pass Tryz.f103:=⟨_,by conv=>lhs;cbv⟩
def PV:Got (lpM VT.m 0):=⟨_,by conv=>lhs;cbv⟩
def aJm:M:=PV.m
theorem aXl:UL aJm PV.m:=ul
def QV:Got (lpM VT.m 1):=⟨_,by conv=>lhs;cbv⟩
def aDX:M:=QV.m
theorem aXu:UL aDX QV.m:=ul
def TK:Got (lpM VT.m 2):=⟨_,by conv=>lhs;cbv⟩
def aFQ:M:=TK.m
theorem aXz:UL aFQ TK.m:=ul
def aHz:GF 60 [] .pass Tryz.f104:=⟨_,by conv=>lhs;cbv⟩
def SC:Got (lpM aHz.m 0):=⟨_,by conv=>lhs;cbv⟩
def aGp:M:=SC.m
theorem aXq:UL aGp SC.m:=ul
def aHr:GF 96 [.tmp 6] .shut Tryz.f105:=⟨_,by conv=>lhs;cbv⟩
def aHV:GF 23 [.tmp 4] .pass Tryz.f106:=⟨_,by conv=>lhs;cbv⟩
def aIy:GF 20 [] .pass Tryz.f107 (kpL aN [] [[0,1,2]]):=⟨_,by conv=>lhs;reduce⟩
def aJj:GF 44 [.cell 6 99] .norm Tryz.f108:=⟨_,by conv=>lhs;cbv⟩
def aHd:GF 40 [.tmp 8,.tmp 9] .pass Tryz.f109 (kpL aN [] [[0,1,2,3],[4,5,6,7],[],[4,5,6,7],[4,5,7,10,11],[11],[4,5,7,10]]):=⟨_,by conv=>lhs;reduce⟩
def aFV:GF 56 [.cell 4 121] .shut Tryz.f110 (kpL aN [] [[0,1],[0,3,4],[4],[0,3,4],[3,4,5],[3,4,5,19],[4,5],[3,4,5,19],[3,4,5,19],[3,4,5,19],[3,4,5],[3,4,5,19],[3,4,5],[4]]):=⟨_,by conv=>lhs;reduce⟩
def aKn:GF 28 [.cell 2 121,.tmp 3] .shut Tryz.f111 (kpL aN [] [[0],[1,2],[2],[1,2]]):=⟨_,by conv=>lhs;reduce⟩
def NI:GF 123 [.cell 8 123,.tmp 9,.tmp 10,.tmp 11] .shut Tryz.f112:=⟨_,by conv=>lhs;cbv⟩
def aEL:GF 12 [.tmp 10] .pass Tryz.f113:=⟨_,by conv=>lhs;cbv⟩
def aHa:GF 28 [.cell 6 114,.tmp 7] .shut Tryz.f114:=⟨_,by conv=>lhs;cbv⟩
def aJd:GF 52 [.cell 10 123,.tmp 11,.tmp 12] .shut Tryz.f115:=⟨_,by conv=>lhs;cbv⟩
def X3:GF 19 [.tmp 4] .pass Tryz.f116:=⟨_,by conv=>lhs;cbv⟩
def D0:Got (lpM X3.m 0):=⟨_,by conv=>lhs;cbv⟩
def UA:M:=D0.m
theorem aDU:UL UA D0.m:=ul
def aI5:GF 15 [.tmp 4] .pass Tryz.f117 (kpL aN [] [[0,1,2],[0,1,2]]):=⟨_,by conv=>lhs;reduce⟩
def aIj:GF 29 [.tmp 4,.cell 5 60,.tmp 6] .norm Tryz.f118 (kpL aN [] [[0,1],[0,1,5],[5],[0,1,5]]):=⟨_,by conv=>lhs;reduce⟩
def aI8:GF 22 [.tmp 4] .shut Tryz.f119:=⟨_,by conv=>lhs;cbv⟩
def aD2:GF 75 [.cell 10 123,.tmp 11,.tmp 12,.tmp 13] .shut Tryz.f120 (kpL aN [] [[0,1,2,3,4],[2,5,6,8,9,10],[8,10],[2,5,6,8,9,10],[2,5,6,8,9,10,14],[2,5,6,8,9,10,14,16,17],[8,10],[2,5,6,8,9,10,14,16],[5,9,10,18],[5,10,18]]):=⟨_,by conv=>lhs;reduce⟩
def aIH:GF 10 [] .pass Tryz.f121:=⟨_,by conv=>lhs;cbv⟩
def aFk:GF 25 [.tmp 4] .shut Tryz.f122:=⟨_,by conv=>lhs;cbv⟩
def aFT:GF 86 [.cell 10 54,.tmp 11,.tmp 12] .shut Tryz.f123 (kpL aN [] [[0,1,2,3,4],[2,5,6,8,9,10],[8,10],[2,5,6,8,9,10],[2,5,6,8,9,10,30],[2,5,6,8,9,10,30],[8,9,10],[2,5,6,8,9,10],[2,5,6,8,9,10,13,14],[8,10],[2,5,6,8,9,10,13],[8,10],[2,5,6,8,9,10,13],[8,10],[2,5,6,8,9,10,13],[2,6,8,9,10,15],[2,6,8,9,10,15,16],[8,10,16],[2,6,8,9,10,15],[10,15,17],[10,15,17],[10,17]]):=⟨_,by conv=>lhs;reduce⟩
def aGX:GF 20 [] .pass Tryz.f124 (kpL aN [] [[0,1,2,3,4],[1,3,4]]):=⟨_,by conv=>lhs;reduce⟩
def aKf:GF 9 [.tmp 4] .norm Tryz.f125:=⟨_,by conv=>lhs;cbv⟩
def aE4:GF 9 [.tmp 2] .shut Tryz.f126:=⟨_,by conv=>lhs;cbv⟩
def aJp:GF 6 [.tmp 4] .pass Tryz.f127:=⟨_,by conv=>lhs;cbv⟩
def aBi:GF 19 [.tmp 4] .shut Tryz.f128 (kpL aN [] [[0,1],[0,3],[0,3,7,8],[0,3,7,8],[0,3,5,7,8],[5],[0,3,7,8],[]]):=⟨_,by conv=>lhs;reduce⟩
def F2:Got (lpM aBi.m 0):=⟨_,by conv=>lhs;cbv⟩
def T3:M:=F2.m
theorem aKb:UL T3 F2.m:=ul
def X8:GF 20 [.tmp 3] .pass Tryz.f129:=⟨_,by conv=>lhs;cbv⟩
def EO:Got (lpM X8.m 0):=⟨_,by conv=>lhs;cbv⟩
def FJ:M:=EO.m
theorem aKu:UL FJ EO.m:=ul
def aIf:GF 7 [.tmp 1] .pass Tryz.f130:=⟨_,by conv=>lhs;cbv⟩
def aHu:GF 34 [.tmp 2] .shut Tryz.f131:=⟨_,by conv=>lhs;cbv⟩
def aHy:GF 4 [.tmp 1] .pass Tryz.f132:=⟨_,by conv=>lhs;cbv⟩
def Z5:GF 56 [.tmp 2] .pass Tryz.f133 (kpL aN [] [[0],[0],[],[0],[0,35,36,37],[0,35,36,37],[0,3,4,35,36,37],[],[0,35,36,37],[]]):=⟨_,by conv=>lhs;reduce⟩
def FW:Got (lpM Z5.m 0):=⟨_,by conv=>lhs;cbv⟩
def RM:M:=FW.m
theorem aHl:UL RM FW.m:=ul
def aIz:GF 21 [.tmp 2] .pass Tryz.f134:=⟨_,by conv=>lhs;cbv⟩
def aHT:GF 6 [.tmp 2] .shut Tryz.f135:=⟨_,by conv=>lhs;cbv⟩
def aJw:GF 6 [.tmp 2] .pass Tryz.f136:=⟨_,by conv=>lhs;cbv⟩
def aFE:GF 11 [.tmp 3] .pass Tryz.f137:=⟨_,by conv=>lhs;cbv⟩
def WS:GF 43 [.tmp 4] .shut Tryz.f138:=⟨_,by conv=>lhs;cbv⟩
def EZ:Got (lpM WS.m 0):=⟨_,by conv=>lhs;cbv⟩
def QG:M:=EZ.m
theorem aHF:UL QG EZ.m:=ul
def FY:Got (lpM WS.m 1):=⟨_,by conv=>lhs;cbv⟩
def PK:M:=FY.m
theorem aJy:UL PK FY.m:=ul
def aDR:GF 21 [.tmp 1] .pass Tryz.f139:=⟨_,by conv=>lhs;cbv⟩
def aEf:GF 17 [.tmp 1] .pass Tryz.f140 (kpL aN [] [[0],[0]]):=⟨_,by conv=>lhs;reduce⟩
def aGg:GF 10 [.tmp 6] .shut Tryz.f141:=⟨_,by conv=>lhs;cbv⟩
def H6:GF 36 [] .pass Tryz.f142:=⟨_,by conv=>lhs;cbv⟩
def FZ:Got (lpM H6.m 0):=⟨_,by conv=>lhs;cbv⟩
def SN:M:=FZ.m
theorem aFZ:UL SN FZ.m:=ul
def E9:Got (lpM H6.m 1):=⟨_,by conv=>lhs;cbv⟩
def SV:M:=E9.m
theorem aIS:UL SV E9.m:=ul
def EF:Got (lpM H6.m 2):=⟨_,by conv=>lhs;cbv⟩
def PH:M:=EF.m
theorem aGE:UL PH EF.m:=ul
def FT:Got (lpM H6.m 3):=⟨_,by conv=>lhs;cbv⟩
def TV:M:=FT.m
theorem aJ8:UL TV FT.m:=ul
def aN6:GF 2 [.cell 0 179] .shut Tryz.f143:=⟨_,by conv=>lhs;cbv⟩
def aPX:GF 2 [.cell 0 179] .shut Tryz.f144:=⟨_,by conv=>lhs;cbv⟩
def aPS:GF 3 [] .pass Tryz.f145:=⟨_,by conv=>lhs;cbv⟩
def aPk:GF 27 [.tmp 4] .pass Tryz.f146:=⟨_,by conv=>lhs;cbv⟩
def aEw:GF 8 [.cell 4 118] .shut Tryz.f147:=⟨_,by conv=>lhs;cbv⟩
def aAH:GF 20 [] .pass Tryz.f148 (kpL aN [] [[0,1,2],[0,1,2,4],[0,1,2,4],[0,1,2,4]]):=⟨_,by conv=>lhs;reduce⟩
def RS:Got (lpM aAH.m 0):=⟨_,by conv=>lhs;cbv⟩
def aE9:M:=RS.m
theorem aXy:UL aE9 RS.m:=ul
def aGV:GF 13 [.tmp 2] .shut Tryz.f149:=⟨_,by conv=>lhs;cbv⟩
def aKh:GF 9 [.tmp 2] .shut Tryz.f150:=⟨_,by conv=>lhs;cbv⟩
def aDM:GF 38 [.tmp 4] .shut Tryz.f151:=⟨_,by conv=>lhs;cbv⟩
def aFl:GF 6 [.tmp 2] .shut Tryz.f153:=⟨_,by conv=>lhs;cbv⟩
def aEu:GF 9 [.tmp 2] .shut Tryz.f154:=⟨_,by conv=>lhs;cbv⟩
def aFG:GF 23 [.tmp 4,.tmp 5,.tmp 6] .shut Tryz.f157 (kpL aN [] [[0,1],[0,1],[0,1,7],[0,1,7],[0]]):=⟨_,by conv=>lhs;reduce⟩
def LI:GF 87 [.cell 2 60,.cell 3 4] .shut Tryz.f158 (kpL aN [] [[0],[1,2,3],[1,2,3],[1,2,3,4],[1,2,3,4,5],[1,2,3,4,5,6],[1,2,3,4,5,6],[1,2,3,4,5,6],[1,2,3,4,5,6],[1,2,3,4,5,6,7,8],[1,2,3,4,5,6],[1,2,3,4,5,6],[1,2,3,4,5,6],[1,2,3,4,5,6],[1,2,3,4,5,6],[1,2,3,4,5,6],[1,2,3,4,5,6],[1,2,3,4,5,6],[1,2,3,4,5],[1,2,3,4,5,69],[1,2,3,4,5,69],[1,2,3,4,5,10,69],[1,2,3,4,5,69],[1,2,3]]):=⟨_,by conv=>lhs;reduce⟩
def TB:Got (lpM LI.m 0):=⟨_,by conv=>lhs;cbv⟩
def aEq:M:=TB.m
theorem aXj:UL aEq TB.m:=ul
def aIu:GF 11 [.tmp 6] .shut Tryz.f159:=⟨_,by conv=>lhs;cbv⟩
def aOC:GF 22 [] .pass Tryz.f161 (kpL aN [] [[0,1,2,3,4]]):=⟨_,by conv=>lhs;reduce⟩
def aMF:GF 33 [] .pass Tryz.f162:=⟨_,by conv=>lhs;cbv⟩
def aGw:GF 17 [] .pass Tryz.f163:=⟨_,by conv=>lhs;cbv⟩
def OJ:Got (lpM aGw.m 0):=⟨_,by conv=>lhs;cbv⟩
def aJo:M:=OJ.m
theorem aXG:UL aJo OJ.m:=ul
def aR5:GF 22 [] .pass Tryz.f164 (kpL aN [] [[0,1,2,3,4]]):=⟨_,by conv=>lhs;reduce⟩
def aIn:GF 13 [.tmp 5] .pass Tryz.f165:=⟨_,by conv=>lhs;cbv⟩
def aCZ:GF 26 [.tmp 4,.tmp 5] .shut Tryz.f166:=⟨_,by conv=>lhs;cbv⟩
def EX:Got (lpM aCZ.m 0):=⟨_,by conv=>lhs;cbv⟩
def OI:M:=EX.m
theorem aGs:UL OI EX.m:=ul
def aJM:GF 15 [.cell 2 99] .pass Tryz.f167:=⟨_,by conv=>lhs;cbv⟩
def aIo:GF 31 [.tmp 2] .pass Tryz.f168 (kpL aN [] [[0],[0],[]]):=⟨_,by conv=>lhs;reduce⟩
def aEx:GF 36 [.tmp 2] .pass Tryz.f169 (kpL aN [] [[0],[0],[0],[]]):=⟨_,by conv=>lhs;reduce⟩
def aGv:GF 3 [.tmp 2] .pass Tryz.f170:=⟨_,by conv=>lhs;cbv⟩
def aFn:GF 30 [.tmp 2] .pass Tryz.f171 (kpL aN [] [[0],[0],[]]):=⟨_,by conv=>lhs;reduce⟩
def aEj:GF 23 [.tmp 2] .pass Tryz.f172 (kpL aN [] [[0],[0],[0,3,4],[0,3],[]]):=⟨_,by conv=>lhs;reduce⟩
def aHM:GF 23 [] .pass Tryz.f173 (kpL aN [] [[0,1]]):=⟨_,by conv=>lhs;reduce⟩
def aEF:GF 27 [.cell 4 123,.tmp 5] .shut Tryz.f174:=⟨_,by conv=>lhs;cbv⟩
def aKl:GF 20 [] .pass Tryz.f175 (kpL aN [] [[0,1,2,3]]):=⟨_,by conv=>lhs;reduce⟩
def aH7:GF 18 [.tmp 4] .shut Tryz.f176:=⟨_,by conv=>lhs;cbv⟩
def aJA:GF 12 [.tmp 4] .shut Tryz.f177:=⟨_,by conv=>lhs;cbv⟩
def aKd:GF 17 [.tmp 4] .shut Tryz.f178:=⟨_,by conv=>lhs;cbv⟩
def aH9:GF 23 [.cell 6 114,.tmp 7] .shut Tryz.f179:=⟨_,by conv=>lhs;cbv⟩
def aAQ:GF 36 [.cell 6 36,.tmp 7] .pass Tryz.f180:=⟨_,by conv=>lhs;cbv⟩
def aEA:GF 21 [.tmp 6,.tmp 7] .shut Tryz.f181 (kpL aN [] [[0,1,2],[2,3,4],[],[2,3,4],[2,4,8]]):=⟨_,by conv=>lhs;reduce⟩
def aGd:GF 14 [.tmp 3] .pass Tryz.f182:=⟨_,by conv=>lhs;cbv⟩
def UD:GF 65 [.cell 8 114,.tmp 9] .pass Tryz.f183 (kpL aN [7,12] [[0,1,2,3],[2,4,5,7,8,9],[8],[2,4,5,7,8,9],[2,5,7,8,9,10],[5,7,8,9,10,11,12],[7,12,33,34],[7,12,13,34],[7,12,13,14],[12,13],[5,8,11,12],[5,8,11,15,16],[8],[5,8,11,15]]):=⟨_,by conv=>lhs;reduce⟩
def F3:Got (lpM UD.m 0):=⟨_,by conv=>lhs;cbv⟩
def yU:M:=F3.m
theorem aFu:UL yU F3.m:=ul
def EC:Got (lpM UD.m 1):=⟨_,by conv=>lhs;cbv⟩
def yK:M:=EC.m
theorem aG1:UL yK EC.m:=ul
def aBf:GF 71 [.cell 4 123,.tmp 5,.tmp 6,.tmp 7] .pass Tryz.f184 (kpL aN [] [[0,1],[0,1,4],[0,1,4,8],[1,4,8,9,10],[4,8,10],[1,4,8,9],[1,4,8,9,36,37],[1,4,8,9,36,37],[1,4,8,9,11,12,36,37],[1,4,8,9,12,36,37],[1,4,8,9,36,37],[1,4,8,9],[1,4,8,13],[4,8,13],[1,4]]):=⟨_,by conv=>lhs;reduce⟩
def F9:Got (lpM aBf.m 0):=⟨_,by conv=>lhs;cbv⟩
def iY:M:=F9.m
theorem aDT:UL iY F9.m:=ul
def aE0:GF 18 [.tmp 10] .pass Tryz.f185:=⟨_,by conv=>lhs;cbv⟩
def aDp:GF 62 [] .pass Tryz.f186 (kpL aN [] [[0,1,2,3,4],[1,2,3,4],[1,2,4],[1,2,4,26,27,28],[1,2,4,26,27,28],[1,2,4,6,26,27,28],[1,2,4,26,27,28],[1,4]]):=⟨_,by conv=>lhs;reduce⟩
def EJ:Got (lpM aDp.m 0):=⟨_,by conv=>lhs;cbv⟩
def F5:M:=EJ.m
theorem aGa:UL F5 EJ.m:=ul
def aHX:GF 71 [.cell 6 99] .norm Tryz.f187 (kpL aN [] [[0,1,2],[0,4,5,6],[0,5,6,7],[6,7],[6,7,8],[6,7,8],[6,7,8],[6,7],[0,5,6,7],[0,5,6,7],[0,5,6,7],[5,6,7],[5,6,7],[6,7],[6,7],[6,7]]):=⟨_,by conv=>lhs;reduce⟩
def aFh:GF 29 [.tmp 6,.tmp 7,.tmp 8] .shut Tryz.f188 (kpL aN [] [[0,1,2],[2,3,4],[],[2,3,4],[2,4,9],[2,4,6,9],[6,7,8]]):=⟨_,by conv=>lhs;reduce⟩
def V7:GF 36 [.tmp 2] .pass Tryz.f189:=⟨_,by conv=>lhs;cbv⟩
def P0:Got (lpM V7.m 0):=⟨_,by conv=>lhs;cbv⟩
def aJJ:M:=P0.m
theorem aXs:UL aJJ P0.m:=ul
def RV:Got (lpM V7.m 1):=⟨_,by conv=>lhs;cbv⟩
def aGP:M:=RV.m
theorem aXo:UL aGP RV.m:=ul
def aJK:GF 8 [.tmp 6] .pass Tryz.f190:=⟨_,by conv=>lhs;cbv⟩
def aGo:GF 52 [.cell 4 114,.tmp 5,.tmp 6] .shut Tryz.f191 (kpL aN [] [[0,1],[2,3,4],[2,3,4,8],[2,4],[2,3,4,8],[2,4],[2,3,4,8],[2,4],[2,3,4,8],[2,4],[2,3,4,8],[2,3,4,8],[2,3,4],[2,3,4],[2,3,4],[2,4,8],[2,4],[2,4],[2,4],[2,4],[2,4]]):=⟨_,by conv=>lhs;reduce⟩
def aGT:GF 32 [.tmp 6] .shut Tryz.f192:=⟨_,by conv=>lhs;cbv⟩
def aFB:GF 45 [.cell 4 54,.tmp 5,.tmp 6] .shut Tryz.f193:=⟨_,by conv=>lhs;cbv⟩
def aE5:GF 22 [.tmp 4,.tmp 5] .shut Tryz.f194:=⟨_,by conv=>lhs;cbv⟩
def aEv:GF 6 [.tmp 2] .shut Tryz.f195:=⟨_,by conv=>lhs;cbv⟩
def aG0:GF 10 [.tmp 2] .shut Tryz.f196:=⟨_,by conv=>lhs;cbv⟩
def YR:GF 22 [] .pass Tryz.f197:=⟨_,by conv=>lhs;cbv⟩
def DQ:Got (lpM YR.m 0):=⟨_,by conv=>lhs;cbv⟩
def fT:M:=DQ.m
theorem aKt:UL fT DQ.m:=ul
def ZY:GF 40 [] .pass Tryz.f198 (kpL aN [] [[0,1,2],[0,1,2,4],[0,2,4,9,10,11],[0,2,4,9,10,11],[0,2,4,5,6,9,10,11],[0,2,4,5,7,9,10,11],[0,2,4,5,7,9,10,11],[0,2,4,9,10,11]]):=⟨_,by conv=>lhs;reduce⟩
def DV:Got (lpM ZY.m 0):=⟨_,by conv=>lhs;cbv⟩
def FX:M:=DV.m
theorem aDO:UL FX DV.m:=ul
def aEt:GF 20 [.cell 4 163] .shut Tryz.f199 (kpL aN [] [[0,1],[1,2,4],[2,4],[2,4]]):=⟨_,by conv=>lhs;reduce⟩
def UI:GF 27 [.cell 2 320,.cell 3 3,.cell 4 69] .shut Tryz.f200 (kpL aN [2,3,4] [[0],[0,2,3,4],[2,3,4],[0,2,3,4],[2,3,4,5],[2,3,4,15,16],[2,3,4,6,16],[2,3,4,6,7],[2,3,4,6,7],[2,6],[2,3,4]]):=⟨_,by conv=>lhs;reduce⟩
def E5:Got (lpM UI.m 0):=⟨_,by conv=>lhs;cbv⟩
def rT:M:=E5.m
theorem aDY:UL rT E5.m:=ul
def E6:Got (lpM UI.m 1):=⟨_,by conv=>lhs;cbv⟩
def rI:M:=E6.m
theorem aIZ:UL rI E6.m:=ul
def aDj:GF 55 [.tmp 2] .shut Tryz.f201:=⟨_,by conv=>lhs;cbv⟩
def D5:Got (lpM aDj.m 0):=⟨_,by conv=>lhs;cbv⟩
def PF:M:=D5.m
theorem aHJ:UL PF D5.m:=ul
def aJk:GF 9 [.tmp 4] .shut Tryz.f202:=⟨_,by conv=>lhs;cbv⟩
def aGn:GF 14 [.tmp 2] .pass Tryz.f203:=⟨_,by conv=>lhs;cbv⟩
def aAX:GF 141 [.tmp 8] .pass Tryz.f204:=⟨_,by conv=>lhs;cbv⟩
def GI:Got (lpM aAX.m 0):=⟨_,by conv=>lhs;cbv⟩
def FP:M:=GI.m
theorem aGi:UL FP GI.m:=ul
def aGm:GF 43 [.cell 4 118] .shut Tryz.f205:=⟨_,by conv=>lhs;cbv⟩
def Q9:Got (lpM aGm.m 0):=⟨_,by conv=>lhs;cbv⟩
def aEb:M:=Q9.m
theorem aXk:UL aEb Q9.m:=ul
def YD:GF 26 [.tmp 4] .shut Tryz.f206 (kpL aN [] [[0,1],[0,1],[],[0,1],[0,1,5],[0,1,5],[0,1,5],[],[]]):=⟨_,by conv=>lhs;reduce⟩
def FU:Got (lpM YD.m 0):=⟨_,by conv=>lhs;cbv⟩
def PE:M:=FU.m
theorem aI0:UL PE FU.m:=ul
def aAE:GF 143 [.tmp 4] .shut Tryz.f209:=⟨_,by conv=>lhs;cbv⟩
def TP:Got (lpM aAE.m 0):=⟨_,by conv=>lhs;cbv⟩
def aFd:M:=TP.m
theorem aXt:UL aFd TP.m:=ul
def aGB:GF 13 [.tmp 2] .pass Tryz.f210:=⟨_,by conv=>lhs;cbv⟩
def aID:GF 17 [.tmp 4] .pass Tryz.f212:=⟨_,by conv=>lhs;cbv⟩
def aBK:GF 16 [.tmp 2] .shut Tryz.f213:=⟨_,by conv=>lhs;cbv⟩
def RX:Got (lpM aBK.m 0):=⟨_,by conv=>lhs;cbv⟩
def aEX:M:=RX.m
theorem aXB:UL aEX RX.m:=ul
def aBT:GF 66 [.tmp 8] .shut Tryz.f214:=⟨_,by conv=>lhs;cbv⟩
def GE:Got (lpM aBT.m 0):=⟨_,by conv=>lhs;cbv⟩
def DY:M:=GE.m
theorem aGc:UL DY GE.m:=ul
def aJe:GF 19 [.tmp 2] .shut Tryz.f217:=⟨_,by conv=>lhs;cbv⟩
def TI:Got (lpM aJe.m 0):=⟨_,by conv=>lhs;cbv⟩
def aHj:M:=TI.m
theorem aXm:UL aHj TI.m:=ul
def aHv:GF 21 [] .pass Tryz.f218 (kpL aN [] [[0,1],[0,1]]):=⟨_,by conv=>lhs;reduce⟩
def aFg:GF 23 [.tmp 6] .shut Tryz.f219:=⟨_,by conv=>lhs;cbv⟩
def aJg:GF 23 [.tmp 6] .shut Tryz.f220:=⟨_,by conv=>lhs;cbv⟩
def U3:GF 22 [.cell 8 3,.cell 9 4] .pass Tryz.f221 (kpL aN [7,8,9] [[0,1,2,3],[1,2,4,7,8,9],[7,8,9,16,17],[7,8,9,10,17],[7,8,9,10,11],[8,9,10],[8,9]]):=⟨_,by conv=>lhs;reduce⟩
def DP:Got (lpM U3.m 0):=⟨_,by conv=>lhs;cbv⟩
def l8:M:=DP.m
theorem aD8:UL l8 DP.m:=ul
def EP:Got (lpM U3.m 1):=⟨_,by conv=>lhs;cbv⟩
def lY:M:=EP.m
theorem aF4:UL lY EP.m:=ul
def aFf:GF 10 [.tmp 4] .shut Tryz.f222:=⟨_,by conv=>lhs;cbv⟩
def aEr:GF 6 [.tmp 2] .shut Tryz.f223:=⟨_,by conv=>lhs;cbv⟩
def aJz:GF 8 [.tmp 6] .pass Tryz.f224:=⟨_,by conv=>lhs;cbv⟩
def aJT:GF 22 [.tmp 4,.tmp 5] .shut Tryz.f226 (kpL aN [] [[0,1],[2,3],[],[2,3],[2,6]]):=⟨_,by conv=>lhs;reduce⟩
def aNy:GF 2 [.cell 0 352] .shut Tryz.f227:=⟨_,by conv=>lhs;cbv⟩
def aEU:GF 101 [.tmp 4] .pass Tryz.f228 (kpL aN [] [[0,1],[0,1],[0,1],[0,12],[0],[0,12],[0,12],[0,12],[0,12],[0],[0],[0],[0,5,6],[6],[0,5],[0],[0],[0],[0],[]]):=⟨_,by conv=>lhs;reduce⟩
def aE3:GF 4 [.tmp 2] .pass Tryz.f229:=⟨_,by conv=>lhs;cbv⟩
def aGC:GF 27 [.tmp 4] .pass Tryz.f230:=⟨_,by conv=>lhs;cbv⟩
def aFW:GF 17 [.tmp 4] .pass Tryz.f231:=⟨_,by conv=>lhs;cbv⟩
def aId:GF 30 [.tmp 4] .shut Tryz.f232:=⟨_,by conv=>lhs;cbv⟩
def aJv:GF 25 [.tmp 4] .shut Tryz.f233 (kpL aN [] [[0,1],[1,2],[1,5,6],[],[1,5]]):=⟨_,by conv=>lhs;reduce⟩
def aFs:GF 5 [] .pass Tryz.f234:=⟨_,by conv=>lhs;cbv⟩
def aHA:GF 20 [] .pass Tryz.f235 (kpL aN [] [[0]]):=⟨_,by conv=>lhs;reduce⟩
def aIF:GF 20 [] .pass Tryz.f236 (kpL aN [] [[0]]):=⟨_,by conv=>lhs;reduce⟩
def aI9:GF 22 [] .pass Tryz.f237 (kpL aN [] [[0],[0]]):=⟨_,by conv=>lhs;reduce⟩
def aFX:GF 26 [] .pass Tryz.f238 (kpL aN [] [[0],[0]]):=⟨_,by conv=>lhs;reduce⟩
def aD5:GF 15 [] .pass Tryz.f239 (kpL aN [] [[0]]):=⟨_,by conv=>lhs;reduce⟩
def aFF:GF 11 [] .pass Tryz.f240:=⟨_,by conv=>lhs;cbv⟩
def aIJ:GF 11 [] .pass Tryz.f241:=⟨_,by conv=>lhs;cbv⟩
def aIU:GF 12 [] .pass Tryz.f242:=⟨_,by conv=>lhs;cbv⟩
def aHE:GF 17 [] .pass Tryz.f243 (kpL aN [] [[0]]):=⟨_,by conv=>lhs;reduce⟩
def aKi:GF 27 [] .pass Tryz.f244 (kpL aN [] [[0],[0],[0]]):=⟨_,by conv=>lhs;reduce⟩
def aIN:GF 11 [] .pass Tryz.f245:=⟨_,by conv=>lhs;cbv⟩
def aKq:GF 6 [] .pass Tryz.f246:=⟨_,by conv=>lhs;cbv⟩
def aIi:GF 20 [] .pass Tryz.f247:=⟨_,by conv=>lhs;cbv⟩
def aFv:GF 11 [] .pass Tryz.f248:=⟨_,by conv=>lhs;cbv⟩
def aGf:GF 4 [.tmp 2] .pass Tryz.f249:=⟨_,by conv=>lhs;cbv⟩
def aLQ:GF 47 [.tmp 2] .shut Tryz.f250:=⟨_,by conv=>lhs;cbv⟩
def aEO:GF 22 [.tmp 2] .shut Tryz.f251:=⟨_,by conv=>lhs;cbv⟩
def aJb:GF 16 [.tmp 2] .shut Tryz.f252:=⟨_,by conv=>lhs;cbv⟩
def aBe:GF 19 [.tmp 4] .shut Tryz.f253:=⟨_,by conv=>lhs;cbv⟩
def GC:Got (lpM aBe.m 0):=⟨_,by conv=>lhs;cbv⟩
def R5:M:=GC.m
theorem aG9:UL R5 GC.m:=ul
def aJQ:GF 16 [.tmp 1] .pass Tryz.f254:=⟨_,by conv=>lhs;cbv⟩
def aJP:GF 9 [.tmp 1] .pass Tryz.f255 (kpL aN [] [[0],[0]]):=⟨_,by conv=>lhs;reduce⟩
def aGb:GF 67 [.cell 2 93] .pass Tryz.f256:=⟨_,by conv=>lhs;cbv⟩
def aHs:GF 8 [.tmp 1] .pass Tryz.f257:=⟨_,by conv=>lhs;cbv⟩
def aFR:GF 18 [.tmp 1] .pass Tryz.f258 (kpL aN [] [[0],[0]]):=⟨_,by conv=>lhs;reduce⟩
def aJY:GF 15 [.tmp 4] .pass Tryz.f259:=⟨_,by conv=>lhs;cbv⟩
def aGl:GF 16 [.tmp 1] .pass Tryz.f260:=⟨_,by conv=>lhs;cbv⟩
def aEW:GF 11 [.tmp 2] .shut Tryz.f261:=⟨_,by conv=>lhs;cbv⟩
def aIR:GF 64 [.tmp 2] .pass Tryz.f262:=⟨_,by conv=>lhs;cbv⟩
def aJx:GF 56 [.tmp 2] .pass Tryz.f263:=⟨_,by conv=>lhs;cbv⟩
def aJr:GF 26 [.tmp 1] .pass Tryz.f264 (kpL aN [] [[0],[0]]):=⟨_,by conv=>lhs;reduce⟩
def aRR:GF 7 [.tmp 0] .shut Tryz.f265:=⟨_,by conv=>lhs;cbv⟩
def aFj:GF 8 [.tmp 4] .shut Tryz.f271:=⟨_,by conv=>lhs;cbv⟩
def aI1:GF 50 [.tmp 4] .shut Tryz.f275:=⟨_,by conv=>lhs;cbv⟩
def TD:Got (lpM aI1.m 0):=⟨_,by conv=>lhs;cbv⟩
def aEn:M:=TD.m
theorem aXp:UL aEn TD.m:=ul
def aJI:GF 34 [.tmp 4] .shut Tryz.f276:=⟨_,by conv=>lhs;cbv⟩
def OK:Got (lpM aJI.m 0):=⟨_,by conv=>lhs;cbv⟩
def aHx:M:=OK.m
theorem aXx:UL aHx OK.m:=ul
def aHf:GF 8 [.tmp 4] .shut Tryz.f277:=⟨_,by conv=>lhs;cbv⟩
def aDI:GF 20 [.tmp 4] .shut Tryz.f284:=⟨_,by conv=>lhs;cbv⟩
def aBD:GF 25 [] .pass Tryz.f285 (kpL aN [] [[0,1,2,3],[0,2,3,8,9],[0,2,3,8,9],[0,2,3,5,8,9],[0,2,3,8,9]]):=⟨_,by conv=>lhs;reduce⟩
def E2:Got (lpM aBD.m 0):=⟨_,by conv=>lhs;cbv⟩
def pH:M:=E2.m
theorem aFU:UL pH E2.m:=ul
def aQC:GF 3 [] .pass Tryz.f286:=⟨_,by conv=>lhs;cbv⟩
def aJq:GF 35 [.tmp 2] .shut Tryz.f287:=⟨_,by conv=>lhs;cbv⟩
def aFc:GF 16 [.tmp 4] .pass Tryz.f288 (kpL aN [] [[0,1,2],[0,1,2]]):=⟨_,by conv=>lhs;reduce⟩
def aFz:GF 15 [] .pass Tryz.f289:=⟨_,by conv=>lhs;cbv⟩
def aGR:GF 8 [] .pass Tryz.f290:=⟨_,by conv=>lhs;cbv⟩
def aH6:GF 8 [] .pass Tryz.f291:=⟨_,by conv=>lhs;cbv⟩
def aFa:GF 13 [] .pass Tryz.f292 (kpL aN [] [[0]]):=⟨_,by conv=>lhs;reduce⟩
def aJ1:GF 21 [] .pass Tryz.f293 (kpL aN [] [[0]]):=⟨_,by conv=>lhs;reduce⟩
def aI2:GF 13 [] .pass Tryz.f294 (kpL aN [] [[0]]):=⟨_,by conv=>lhs;reduce⟩
def aGr:GF 11 [] .pass Tryz.f295:=⟨_,by conv=>lhs;cbv⟩
def aIK:GF 8 [] .pass Tryz.f296:=⟨_,by conv=>lhs;cbv⟩
def aFD:GF 92 [] .pass Tryz.f297 (kpL aN [] [[0],[0,2],[0,2],[0,2,3],[0,2,3,4],[0,2,3,4],[0,2,3,4],[0,2,3,4]]):=⟨_,by conv=>lhs;reduce⟩
def aHk:GF 5 [] .pass Tryz.f298:=⟨_,by conv=>lhs;cbv⟩
def aIk:GF 76 [.cell 6 123,.tmp 7] .shut Tryz.f299 (kpL aN [] [[0,1,2],[3,4,5,6],[4,6],[3,4,5,6],[4,6],[3,4,5,6],[3,4,5,6,8,9,10],[4,5,6,8,9],[4,6],[3,4,5,6,8],[4,5,6,8,9,11],[4,6],[4,5,6,8,9],[4,6,8,9],[4,6]]):=⟨_,by conv=>lhs;reduce⟩
def aFw:GF 29 [.cell 6 123] .shut Tryz.f300:=⟨_,by conv=>lhs;cbv⟩
def aFr:GF 26 [.cell 6 123] .shut Tryz.f301:=⟨_,by conv=>lhs;cbv⟩
def aEC:GF 13 [.tmp 3] .pass Tryz.f302:=⟨_,by conv=>lhs;cbv⟩
def ZA:GF 29 [] .pass Tryz.f303 (kpL aN [] [[0,1],[1,4],[1,4,17],[1,4,17],[1,4,5,17],[1,4,5,17],[1,4,17]]):=⟨_,by conv=>lhs;reduce⟩
def EE:Got (lpM ZA.m 0):=⟨_,by conv=>lhs;cbv⟩
def DO:M:=EE.m
theorem aGz:UL DO EE.m:=ul
def aGH:GF 36 [] .pass Tryz.f304 (kpL aN [] [[0,1],[0,1],[1]]):=⟨_,by conv=>lhs;reduce⟩
def aB5:GF 34 [] .pass Tryz.f305 (kpL aN [] [[0,1],[0,6,7,8],[0,6,7,8],[0,5,6,7,8],[0,5,6,7,8],[0,6,7,8]]):=⟨_,by conv=>lhs;reduce⟩
def R4:Got (lpM aB5.m 0):=⟨_,by conv=>lhs;cbv⟩
def aJ0:M:=R4.m
theorem aXA:UL aJ0 R4.m:=ul
def aGJ:GF 6 [.cell 2 50] .shut Tryz.f306:=⟨_,by conv=>lhs;cbv⟩
def aIr:GF 26 [.cell 4 50] .shut Tryz.f307 (kpL aN [] [[0,1],[1,2,4],[1,2,4,5,6],[2,4],[1,2,4,5]]):=⟨_,by conv=>lhs;reduce⟩
def aDi:GF 23 [] .pass Tryz.f308 (kpL aN [] [[0,1],[0,1,3,4],[0,1,3],[0,1,3],[0,1,3],[0,1,22]]):=⟨_,by conv=>lhs;reduce⟩
def FB:Got (lpM aDi.m 0):=⟨_,by conv=>lhs;cbv⟩
def yM:M:=FB.m
theorem aG4:UL yM FB.m:=ul
def X5:GF 57 [.cell 2 325,.tmp 3] .pass Tryz.f309 (kpL aN [] [[0],[0,2],[0,2],[0,2],[0,2],[0,2],[0,2,4],[0,2,4,5],[0,2,4,5],[0,2,4],[2,4],[0,2,5],[2]]):=⟨_,by conv=>lhs;reduce⟩
def GK:Got (lpM X5.m 0):=⟨_,by conv=>lhs;cbv⟩
def O6:M:=GK.m
theorem aEh:UL O6 GK.m:=ul
def WK:GF 30 [.tmp 2] .shut Tryz.f310:=⟨_,by conv=>lhs;cbv⟩
def aHt:GF 45 [.cell 4 118] .shut Tryz.f311 (kpL aN [] [[0,1],[1,2,4],[1,2,4,8,9],[1,2,4,8,9],[1,2,4,5,8,9],[1,2,4,5],[1,2,4,8,9],[1,2,4],[2,4]]):=⟨_,by conv=>lhs;reduce⟩
def TR:Got (lpM aHt.m 0):=⟨_,by conv=>lhs;cbv⟩
def aHD:M:=TR.m
theorem aXD:UL aHD TR.m:=ul
def ZW:GF 25 [.tmp 4,.tmp 5] .pass Tryz.f312:=⟨_,by conv=>lhs;cbv⟩
def P6:Got (lpM ZW.m 0):=⟨_,by conv=>lhs;cbv⟩
def aEk:M:=P6.m
theorem aXE:UL aEk P6.m:=ul
def aRC:GF 7 [.cell 4 118] .shut Tryz.f313:=⟨_,by conv=>lhs;cbv⟩
def aO1:GF 23 [.cell 4 118] .shut Tryz.f314:=⟨_,by conv=>lhs;cbv⟩
def aDK:GF 55 [.tmp 4,.tmp 5] .pass Tryz.f315:=⟨_,by conv=>lhs;cbv⟩
def Z8:GF 26 [.tmp 4,.tmp 5] .pass Tryz.f316:=⟨_,by conv=>lhs;cbv⟩
def PM:Got (lpM Z8.m 0):=⟨_,by conv=>lhs;cbv⟩
def aDV:M:=PM.m
theorem aXC:UL aDV PM.m:=ul
def aCG:GF 37 [.tmp 2] .shut Tryz.f330:=⟨_,by conv=>lhs;cbv⟩
def EI:Got (lpM aCG.m 0):=⟨_,by conv=>lhs;cbv⟩
def FR:M:=EI.m
theorem aD7:UL FR EI.m:=ul
def ZC:GF 34 [] .pass Tryz.f331 (kpL aN [] [[0,1],[0,6,7,8],[0,6,7,8],[0,5,6,7,8],[0,5,6,7,8],[0,6,7,8]]):=⟨_,by conv=>lhs;reduce⟩
def PZ:Got (lpM ZC.m 0):=⟨_,by conv=>lhs;cbv⟩
def aFm:M:=PZ.m
theorem aXF:UL aFm PZ.m:=ul
def aF0:GF 13 [.tmp 2] .pass Tryz.f332 (kpL aN [] [[0],[0]]):=⟨_,by conv=>lhs;reduce⟩
def aIP:GF 21 [.tmp 6] .shut Tryz.f333:=⟨_,by conv=>lhs;cbv⟩
def aEB:GF 27 [.tmp 4] .shut Tryz.f334:=⟨_,by conv=>lhs;cbv⟩
def aHZ:GF 28 [.cell 4 118] .shut Tryz.f335 (kpL aN [] [[0,1],[1,2,4],[2,4],[1,2,4]]):=⟨_,by conv=>lhs;reduce⟩
def aEI:GF 28 [.cell 4 118] .shut Tryz.f336 (kpL aN [] [[0,1],[1,2,4],[2,4],[1,2,4]]):=⟨_,by conv=>lhs;reduce⟩
def WM:GF 45 [.tmp 4] .shut Tryz.f337 (kpL aN [6] [[0,1],[1,2,4],[],[1,2,4],[2,4,5],[5],[2,4,5],[2,5],[2,4,5],[2,4,5,6],[6,36],[6,7],[5,6]]):=⟨_,by conv=>lhs;reduce⟩
def SK:Got (lpM WM.m 0):=⟨_,by conv=>lhs;cbv⟩
def aKa:M:=SK.m
theorem aXn:UL aKa SK.m:=ul
def Q5:Got (lpM WM.m 1):=⟨_,by conv=>lhs;cbv⟩
def aGA:M:=Q5.m
theorem aXw:UL aGA Q5.m:=ul
def aNG:GF 3 [.tmp 0] .shut Tryz.f338:=⟨_,by conv=>lhs;cbv⟩
def V3:GF 50 [] .pass Tryz.f339 (kpL aN [] [[0],[0],[0],[0],[0]]):=⟨_,by conv=>lhs;reduce⟩
def E7:Got (lpM V3.m 0):=⟨_,by conv=>lhs;cbv⟩
def QF:M:=E7.m
theorem aFC:UL QF E7.m:=ul
def D7:Got (lpM V3.m 1):=⟨_,by conv=>lhs;cbv⟩
def TN:M:=D7.m
theorem aEJ:UL TN D7.m:=ul
def aHb:GF 18 [.tmp 2] .pass Tryz.f340 (kpL aN [] [[0],[0]]):=⟨_,by conv=>lhs;reduce⟩
def aIe:GF 51 [.cell 2 325] .pass Tryz.f341 (kpL aN [] [[0],[0,2],[0,2,3,4],[0,2,3,4,17],[0,2],[0,2,3,4,17],[0,2],[0,2,3,4],[0,2,3,4,5],[0,2,3,5]]):=⟨_,by conv=>lhs;reduce⟩
def aIv:GF 13 [.tmp 2] .pass Tryz.f342 (kpL aN [] [[0],[0]]):=⟨_,by conv=>lhs;reduce⟩
def N0:GF 47 [.tmp 2,.tmp 3] .shut Tryz.f343:=⟨_,by conv=>lhs;cbv⟩
def RP:Got (lpM N0.m 0):=⟨_,by conv=>lhs;cbv⟩
def aEz:M:=RP.m
theorem aXr:UL aEz RP.m:=ul
def aO3:GF 22 [] .pass Tryz.f344 (kpL aN [] [[0,1,2],[0,1,2],[0,2]]):=⟨_,by conv=>lhs;reduce⟩
def aOn:GF 14 [.tmp 2] .shut Tryz.f346:=⟨_,by conv=>lhs;cbv⟩
def aMb:GF 6 [.tmp 2] .shut Tryz.f348:=⟨_,by conv=>lhs;cbv⟩
def aIl:GF 4 [.tmp 2] .pass Tryz.f349:=⟨_,by conv=>lhs;cbv⟩
def aHU:GF 15 [.cell 4 50] .shut Tryz.f350:=⟨_,by conv=>lhs;cbv⟩
def aFM:GF 39 [.cell 4 50] .shut Tryz.f351:=⟨_,by conv=>lhs;cbv⟩
def aJE:GF 16 [.cell 4 50] .shut Tryz.f352:=⟨_,by conv=>lhs;cbv⟩
def aJF:GF 46 [.tmp 2] .pass Tryz.f353 (kpL aN [] [[0],[0],[0,3],[0,3,4],[3],[3]]):=⟨_,by conv=>lhs;reduce⟩
def aCT:GF 28 [.tmp 2] .pass Tryz.f354:=⟨_,by conv=>lhs;cbv⟩
def FQ:Got (lpM aCT.m 0):=⟨_,by conv=>lhs;cbv⟩
def OH:M:=FQ.m
theorem aF2:UL OH FQ.m:=ul
def aDo:GF 29 [.tmp 2] .pass Tryz.f355:=⟨_,by conv=>lhs;cbv⟩
def DU:Got (lpM aDo.m 0):=⟨_,by conv=>lhs;cbv⟩
def PN:M:=DU.m
theorem aED:UL PN DU.m:=ul
def aB6:GF 15 [] .pass Tryz.f356:=⟨_,by conv=>lhs;cbv⟩
def SP:Got (lpM aB6.m 0):=⟨_,by conv=>lhs;cbv⟩
def aE1:M:=SP.m
theorem aXv:UL aE1 SP.m:=ul
def aJU:GF 35 [.tmp 2] .shut Tryz.f357:=⟨_,by conv=>lhs;cbv⟩
