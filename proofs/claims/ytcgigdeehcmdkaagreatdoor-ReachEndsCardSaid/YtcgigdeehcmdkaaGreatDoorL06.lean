/- The evaluator's context: types and bodies, and that they are the program's. Printed by wip/ev/gen/ctx.py. -/
import Derived.Test.YtcgigdeehcmdkaaGreatDoorL04
import Derived.Test.YtcgigdeehcmdkaaGreatDoorChecked
set_option linter.all false
namespace Go.Proofs.YtcgigdeehcmdkaaGreatDoor.Ev
open Go Go.RowKit
set_option maxRecDepth 100000
structure a0p(a:Option Ty) where
 t:Ty
 h:a=some t
abbrev TG(i:Nat):=a0p (rP Tryz.prog i)
def th1:TG 1:=⟨_,by conv=>lhs;cbv⟩
def th3:TG 3:=⟨_,by conv=>lhs;cbv⟩
def th4:TG 4:=⟨_,by conv=>lhs;cbv⟩
def th5:TG 5:=⟨_,by conv=>lhs;cbv⟩
def th9:TG 9:=⟨_,by conv=>lhs;cbv⟩
def aHx:TG 20:=⟨_,by conv=>lhs;cbv⟩
def aKU:TG 22:=⟨_,by conv=>lhs;cbv⟩
def aEu:TG 23:=⟨_,by conv=>lhs;cbv⟩
def aHW:TG 24:=⟨_,by conv=>lhs;cbv⟩
def aGu:TG 25:=⟨_,by conv=>lhs;cbv⟩
def aHC:TG 27:=⟨_,by conv=>lhs;cbv⟩
def aH6:TG 29:=⟨_,by conv=>lhs;cbv⟩
def aIY:TG 31:=⟨_,by conv=>lhs;cbv⟩
def aJl:TG 33:=⟨_,by conv=>lhs;cbv⟩
def aGd:TG 34:=⟨_,by conv=>lhs;cbv⟩
def aKj:TG 36:=⟨_,by conv=>lhs;cbv⟩
def aIA:Ty:=⟨(.array 14 36),42,56,(List.replicate 14 ([(.int .u8 0),(.int .u8 0),(.int .u16 0)]:List Value)).flatten,true⟩
def aHD:Ty:=⟨(.array 12 37),504,672,(List.replicate 168 ([(.int .u8 0),(.int .u8 0),(.int .u16 0)]:List Value)).flatten,true⟩
def aH2:TG 39:=⟨_,by conv=>lhs;cbv⟩
def aGX:Ty:=⟨(.array 4 39),60,80,(List.replicate 20 ([(.int .u8 0),(.int .u8 0),(.int .u16 0)]:List Value)).flatten,true⟩
def aG5:Ty:=⟨(.struct [(9,0,true),(38,1,true),(40,505,true)]),565,768,[(.string ⟨#[]⟩)]++(List.replicate 188 ([(.int .u8 0),(.int .u8 0),(.int .u16 0)]:List Value)).flatten,true⟩
def aKy:Ty:=⟨(.struct [(29,0,true),(31,10,true),(33,15,true),(42,20,true)]),585,960,[(.string ⟨#[]⟩),(.slice none 0 0),(.slice none 0 0),(.slice none 0 0),(.int .u8 0),(.int .u8 0),(.int .u8 0),(.int .u8 0),(.int .u8 0),(.slice none 0 0),(.int .i64 0),(.int .i64 0),(.int .i64 0),(.int .i64 0),(.int .i64 0),(.int .u8 0),(.int .u8 0),(.int .u8 0),(.int .i64 0),(.bool false),(.string ⟨#[]⟩)]++(List.replicate 188 ([(.int .u8 0),(.int .u8 0),(.int .u16 0)]:List Value)).flatten,true⟩
def aH4:TG 45:=⟨_,by conv=>lhs;cbv⟩
def aLq:TG 46:=⟨_,by conv=>lhs;cbv⟩
def aHR:TG 48:=⟨_,by conv=>lhs;cbv⟩
def aIy:TG 49:=⟨_,by conv=>lhs;cbv⟩
def aHQ:TG 51:=⟨_,by conv=>lhs;cbv⟩
def aCi:TG 54:=⟨_,by conv=>lhs;cbv⟩
def aCM:TG 55:=⟨_,by conv=>lhs;cbv⟩
def aG4:TG 56:=⟨_,by conv=>lhs;cbv⟩
def aGh:TG 57:=⟨_,by conv=>lhs;cbv⟩
def aE7:TG 59:=⟨_,by conv=>lhs;cbv⟩
def aJ1:TG 60:=⟨_,by conv=>lhs;cbv⟩
def aK6:TG 61:=⟨_,by conv=>lhs;cbv⟩
def YW:TG 63:=⟨_,by conv=>lhs;cbv⟩
def aEy:Ty:=⟨(.array 6 63),66,240,[(.int .u8 0),(.int .u8 0),(.int .u8 0),(.int .u64 0),(.bool false),(.int .u8 0),(.int .u8 0),(.int .u8 0),(.int .u8 0),(.int .u8 0),(.int .u8 0),(.int .u8 0),(.int .u8 0),(.int .u8 0),(.int .u64 0),(.bool false),(.int .u8 0),(.int .u8 0),(.int .u8 0),(.int .u8 0),(.int .u8 0),(.int .u8 0),(.int .u8 0),(.int .u8 0),(.int .u8 0),(.int .u64 0),(.bool false),(.int .u8 0),(.int .u8 0),(.int .u8 0),(.int .u8 0),(.int .u8 0),(.int .u8 0),(.int .u8 0),(.int .u8 0),(.int .u8 0),(.int .u64 0),(.bool false),(.int .u8 0),(.int .u8 0),(.int .u8 0),(.int .u8 0),(.int .u8 0),(.int .u8 0),(.int .u8 0),(.int .u8 0),(.int .u8 0),(.int .u64 0),(.bool false),(.int .u8 0),(.int .u8 0),(.int .u8 0),(.int .u8 0),(.int .u8 0),(.int .u8 0),(.int .u8 0),(.int .u8 0),(.int .u8 0),(.int .u64 0),(.bool false)]++(List.replicate 6 ([(.int .u8 0)]:List Value)).flatten,true⟩
def HH:TG 65:=⟨_,by conv=>lhs;cbv⟩
def aFl:TG 67:=⟨_,by conv=>lhs;cbv⟩
def aIB:TG 73:=⟨_,by conv=>lhs;cbv⟩
def J2:TG 77:=⟨_,by conv=>lhs;cbv⟩
def aH9:TG 79:=⟨_,by conv=>lhs;cbv⟩
def aJS:TG 83:=⟨_,by conv=>lhs;cbv⟩
def aHU:TG 88:=⟨_,by conv=>lhs;cbv⟩
def aI6:TG 95:=⟨_,by conv=>lhs;cbv⟩
def aGq:TG 97:=⟨_,by conv=>lhs;cbv⟩
def aFF:TG 99:=⟨_,by conv=>lhs;cbv⟩
def Q9:TG 102:=⟨_,by conv=>lhs;cbv⟩
def R9:TG 106:=⟨_,by conv=>lhs;cbv⟩
def SH:TG 108:=⟨_,by conv=>lhs;cbv⟩
def RY:TG 110:=⟨_,by conv=>lhs;cbv⟩
def TN:TG 111:=⟨_,by conv=>lhs;cbv⟩
def QM:TG 113:=⟨_,by conv=>lhs;cbv⟩
def TW:TG 116:=⟨_,by conv=>lhs;cbv⟩
def QH:TG 117:=⟨_,by conv=>lhs;cbv⟩
def vS:TG 118:=⟨_,by conv=>lhs;cbv⟩
def BU:TG 120:=⟨_,by conv=>lhs;cbv⟩
def RH:TG 122:=⟨_,by conv=>lhs;cbv⟩
def AP:TG 124:=⟨_,by conv=>lhs;cbv⟩
def AL:Ty:=⟨(.array 4 124),32,32,[(.int .u8 0),(.int .u8 0),(.int .i8 0),(.bool false),(.int .u8 0),(.int .u8 0),(.int .u8 0),(.int .u8 0),(.int .u8 0),(.int .u8 0),(.int .i8 0),(.bool false),(.int .u8 0),(.int .u8 0),(.int .u8 0),(.int .u8 0),(.int .u8 0),(.int .u8 0),(.int .i8 0),(.bool false),(.int .u8 0),(.int .u8 0),(.int .u8 0),(.int .u8 0),(.int .u8 0),(.int .u8 0),(.int .i8 0),(.bool false)]++(List.replicate 4 ([(.int .u8 0)]:List Value)).flatten,true⟩
def PT:Ty:=⟨(.array 4 125),128,128,[(.int .u8 0),(.int .u8 0),(.int .i8 0),(.bool false),(.int .u8 0),(.int .u8 0),(.int .u8 0),(.int .u8 0),(.int .u8 0),(.int .u8 0),(.int .i8 0),(.bool false),(.int .u8 0),(.int .u8 0),(.int .u8 0),(.int .u8 0),(.int .u8 0),(.int .u8 0),(.int .i8 0),(.bool false),(.int .u8 0),(.int .u8 0),(.int .u8 0),(.int .u8 0),(.int .u8 0),(.int .u8 0),(.int .i8 0),(.bool false),(.int .u8 0),(.int .u8 0),(.int .u8 0),(.int .u8 0),(.int .u8 0),(.int .u8 0),(.int .i8 0),(.bool false),(.int .u8 0),(.int .u8 0),(.int .u8 0),(.int .u8 0),(.int .u8 0),(.int .u8 0),(.int .i8 0),(.bool false),(.int .u8 0),(.int .u8 0),(.int .u8 0),(.int .u8 0),(.int .u8 0),(.int .u8 0),(.int .i8 0),(.bool false),(.int .u8 0),(.int .u8 0),(.int .u8 0),(.int .u8 0),(.int .u8 0),(.int .u8 0),(.int .i8 0),(.bool false),(.int .u8 0),(.int .u8 0),(.int .u8 0),(.int .u8 0),(.int .u8 0),(.int .u8 0),(.int .i8 0),(.bool false),(.int .u8 0),(.int .u8 0),(.int .u8 0),(.int .u8 0),(.int .u8 0),(.int .u8 0),(.int .i8 0),(.bool false),(.int .u8 0),(.int .u8 0),(.int .u8 0),(.int .u8 0),(.int .u8 0),(.int .u8 0),(.int .i8 0),(.bool false),(.int .u8 0),(.int .u8 0),(.int .u8 0),(.int .u8 0),(.int .u8 0),(.int .u8 0),(.int .i8 0),(.bool false),(.int .u8 0),(.int .u8 0),(.int .u8 0),(.int .u8 0),(.int .u8 0),(.int .u8 0),(.int .i8 0),(.bool false),(.int .u8 0),(.int .u8 0),(.int .u8 0),(.int .u8 0),(.int .u8 0),(.int .u8 0),(.int .i8 0),(.bool false),(.int .u8 0),(.int .u8 0),(.int .u8 0),(.int .u8 0),(.int .u8 0),(.int .u8 0),(.int .i8 0),(.bool false),(.int .u8 0),(.int .u8 0),(.int .u8 0),(.int .u8 0),(.int .u8 0),(.int .u8 0),(.int .i8 0),(.bool false)]++(List.replicate 4 ([(.int .u8 0)]:List Value)).flatten,true⟩
def B8:TG 128:=⟨_,by conv=>lhs;cbv⟩
def US:TG 129:=⟨_,by conv=>lhs;cbv⟩
def SF:TG 131:=⟨_,by conv=>lhs;cbv⟩
def BJ:Ty:=⟨(.struct [(126,0,true),(129,128,true),(131,156,true)]),160,232,[(.int .u8 0),(.int .u8 0),(.int .i8 0),(.bool false),(.int .u8 0),(.int .u8 0),(.int .u8 0),(.int .u8 0),(.int .u8 0),(.int .u8 0),(.int .i8 0),(.bool false),(.int .u8 0),(.int .u8 0),(.int .u8 0),(.int .u8 0),(.int .u8 0),(.int .u8 0),(.int .i8 0),(.bool false),(.int .u8 0),(.int .u8 0),(.int .u8 0),(.int .u8 0),(.int .u8 0),(.int .u8 0),(.int .i8 0),(.bool false),(.int .u8 0),(.int .u8 0),(.int .u8 0),(.int .u8 0),(.int .u8 0),(.int .u8 0),(.int .i8 0),(.bool false),(.int .u8 0),(.int .u8 0),(.int .u8 0),(.int .u8 0),(.int .u8 0),(.int .u8 0),(.int .i8 0),(.bool false),(.int .u8 0),(.int .u8 0),(.int .u8 0),(.int .u8 0),(.int .u8 0),(.int .u8 0),(.int .i8 0),(.bool false),(.int .u8 0),(.int .u8 0),(.int .u8 0),(.int .u8 0),(.int .u8 0),(.int .u8 0),(.int .i8 0),(.bool false),(.int .u8 0),(.int .u8 0),(.int .u8 0),(.int .u8 0),(.int .u8 0),(.int .u8 0),(.int .i8 0),(.bool false),(.int .u8 0),(.int .u8 0),(.int .u8 0),(.int .u8 0),(.int .u8 0),(.int .u8 0),(.int .i8 0),(.bool false),(.int .u8 0),(.int .u8 0),(.int .u8 0),(.int .u8 0),(.int .u8 0),(.int .u8 0),(.int .i8 0),(.bool false),(.int .u8 0),(.int .u8 0),(.int .u8 0),(.int .u8 0),(.int .u8 0),(.int .u8 0),(.int .i8 0),(.bool false),(.int .u8 0),(.int .u8 0),(.int .u8 0),(.int .u8 0),(.int .u8 0),(.int .u8 0),(.int .i8 0),(.bool false),(.int .u8 0),(.int .u8 0),(.int .u8 0),(.int .u8 0),(.int .u8 0),(.int .u8 0),(.int .i8 0),(.bool false),(.int .u8 0),(.int .u8 0),(.int .u8 0),(.int .u8 0),(.int .u8 0),(.int .u8 0),(.int .i8 0),(.bool false),(.int .u8 0),(.int .u8 0),(.int .u8 0),(.int .u8 0),(.int .u8 0),(.int .u8 0),(.int .i8 0),(.bool false),(.int .u8 0),(.int .u8 0),(.int .u8 0),(.int .u8 0),(.int .u8 0),(.int .i64 0),(.int .u8 0),(.int .u8 0),(.int .u8 0),(.int .u8 0),(.int .u8 0),(.int .u8 0),(.int .i64 0),(.int .u8 0),(.int .u8 0),(.int .u8 0),(.int .u8 0),(.int .u8 0),(.int .u8 0),(.int .i64 0),(.int .u8 0),(.int .u8 0),(.int .u8 0),(.int .u8 0),(.int .u8 0),(.int .u8 0),(.int .i64 0)]++(List.replicate 9 ([(.int .u8 0)]:List Value)).flatten,true⟩
def PW:TG 139:=⟨_,by conv=>lhs;cbv⟩
def PY:TG 145:=⟨_,by conv=>lhs;cbv⟩
def QY:TG 146:=⟨_,by conv=>lhs;cbv⟩
def R7:TG 148:=⟨_,by conv=>lhs;cbv⟩
def RD:TG 149:=⟨_,by conv=>lhs;cbv⟩
def U0:TG 153:=⟨_,by conv=>lhs;cbv⟩
def O8:TG 155:=⟨_,by conv=>lhs;cbv⟩
def PB:TG 159:=⟨_,by conv=>lhs;cbv⟩
def PG:TG 162:=⟨_,by conv=>lhs;cbv⟩
def RR:TG 163:=⟨_,by conv=>lhs;cbv⟩
def RJ:TG 164:=⟨_,by conv=>lhs;cbv⟩
def UQ:TG 165:=⟨_,by conv=>lhs;cbv⟩
def T8:TG 166:=⟨_,by conv=>lhs;cbv⟩
def O4:TG 186:=⟨_,by conv=>lhs;cbv⟩
def RU:TG 196:=⟨_,by conv=>lhs;cbv⟩
def QG:TG 205:=⟨_,by conv=>lhs;cbv⟩
def R5:TG 212:=⟨_,by conv=>lhs;cbv⟩
def JI:TG 213:=⟨_,by conv=>lhs;cbv⟩
def TO:TG 215:=⟨_,by conv=>lhs;cbv⟩
def vQ:TG 226:=⟨_,by conv=>lhs;cbv⟩
def UC:TG 235:=⟨_,by conv=>lhs;cbv⟩
def SN:TG 237:=⟨_,by conv=>lhs;cbv⟩
def TA:TG 239:=⟨_,by conv=>lhs;cbv⟩
def Q4:TG 241:=⟨_,by conv=>lhs;cbv⟩
def RP:TG 242:=⟨_,by conv=>lhs;cbv⟩
def UF:TG 244:=⟨_,by conv=>lhs;cbv⟩
def OZ:TG 245:=⟨_,by conv=>lhs;cbv⟩
def IR:TG 247:=⟨_,by conv=>lhs;cbv⟩
def O7:TG 248:=⟨_,by conv=>lhs;cbv⟩
def UN:TG 249:=⟨_,by conv=>lhs;cbv⟩
def T7:TG 252:=⟨_,by conv=>lhs;cbv⟩
def U9:TG 254:=⟨_,by conv=>lhs;cbv⟩
def TR:TG 257:=⟨_,by conv=>lhs;cbv⟩
def UW:TG 264:=⟨_,by conv=>lhs;cbv⟩
def QL:TG 273:=⟨_,by conv=>lhs;cbv⟩
def UB:TG 275:=⟨_,by conv=>lhs;cbv⟩
def TY:TG 277:=⟨_,by conv=>lhs;cbv⟩
def PP:TG 278:=⟨_,by conv=>lhs;cbv⟩
def UJ:TG 283:=⟨_,by conv=>lhs;cbv⟩
def Q3:TG 285:=⟨_,by conv=>lhs;cbv⟩
def UI:TG 287:=⟨_,by conv=>lhs;cbv⟩
def PQ:TG 314:=⟨_,by conv=>lhs;cbv⟩
def S9:TG 315:=⟨_,by conv=>lhs;cbv⟩
def RX:TG 316:=⟨_,by conv=>lhs;cbv⟩
def QR:TG 318:=⟨_,by conv=>lhs;cbv⟩
def PE:TG 320:=⟨_,by conv=>lhs;cbv⟩
def UT:TG 321:=⟨_,by conv=>lhs;cbv⟩
def RB:TG 336:=⟨_,by conv=>lhs;cbv⟩
def T4:TG 337:=⟨_,by conv=>lhs;cbv⟩
def QQ:TG 340:=⟨_,by conv=>lhs;cbv⟩
def OY:TG 342:=⟨_,by conv=>lhs;cbv⟩
def RT:TG 344:=⟨_,by conv=>lhs;cbv⟩
def RN:TG 345:=⟨_,by conv=>lhs;cbv⟩
def IK:TG 348:=⟨_,by conv=>lhs;cbv⟩
def SC:TG 349:=⟨_,by conv=>lhs;cbv⟩
def T6:TG 351:=⟨_,by conv=>lhs;cbv⟩
def QS:TG 352:=⟨_,by conv=>lhs;cbv⟩
def PX:TG 353:=⟨_,by conv=>lhs;cbv⟩
def JR:TG 355:=⟨_,by conv=>lhs;cbv⟩
def P5:TG 356:=⟨_,by conv=>lhs;cbv⟩
def R6:TG 357:=⟨_,by conv=>lhs;cbv⟩
def Q0:TG 364:=⟨_,by conv=>lhs;cbv⟩
def SD:TG 365:=⟨_,by conv=>lhs;cbv⟩
def TM:TG 371:=⟨_,by conv=>lhs;cbv⟩
def TT:TG 374:=⟨_,by conv=>lhs;cbv⟩
def SP:TG 375:=⟨_,by conv=>lhs;cbv⟩
def PD:TG 376:=⟨_,by conv=>lhs;cbv⟩
def UD:TG 377:=⟨_,by conv=>lhs;cbv⟩
def RM:TG 388:=⟨_,by conv=>lhs;cbv⟩
def PH:TG 391:=⟨_,by conv=>lhs;cbv⟩
def QN:TG 397:=⟨_,by conv=>lhs;cbv⟩
def O9:TG 403:=⟨_,by conv=>lhs;cbv⟩
def T5:TG 405:=⟨_,by conv=>lhs;cbv⟩
def OQ:TG 412:=⟨_,by conv=>lhs;cbv⟩
def SO:TG 424:=⟨_,by conv=>lhs;cbv⟩
def OV:TG 427:=⟨_,by conv=>lhs;cbv⟩
def QC:TG 429:=⟨_,by conv=>lhs;cbv⟩
def U1:TG 431:=⟨_,by conv=>lhs;cbv⟩
def R8:TG 432:=⟨_,by conv=>lhs;cbv⟩
def PZ:TG 435:=⟨_,by conv=>lhs;cbv⟩
def TD:TG 436:=⟨_,by conv=>lhs;cbv⟩
def P9:TG 438:=⟨_,by conv=>lhs;cbv⟩
def OR:TG 440:=⟨_,by conv=>lhs;cbv⟩
def PU:TG 442:=⟨_,by conv=>lhs;cbv⟩
def TX:TG 449:=⟨_,by conv=>lhs;cbv⟩
def RC:TG 450:=⟨_,by conv=>lhs;cbv⟩
def P6:TG 453:=⟨_,by conv=>lhs;cbv⟩
def PO:TG 454:=⟨_,by conv=>lhs;cbv⟩
def Q7:TG 455:=⟨_,by conv=>lhs;cbv⟩
def P7:TG 460:=⟨_,by conv=>lhs;cbv⟩
def TE:TG 462:=⟨_,by conv=>lhs;cbv⟩
def TC:TG 467:=⟨_,by conv=>lhs;cbv⟩
def RE:TG 471:=⟨_,by conv=>lhs;cbv⟩
def UK:Ty:=⟨(.array 64 5),64,64,(List.replicate 64 ([(.int .u8 0)]:List Value)).flatten,true⟩
def S7:TG 480:=⟨_,by conv=>lhs;cbv⟩
def TF:TG 485:=⟨_,by conv=>lhs;cbv⟩
def QO:TG 491:=⟨_,by conv=>lhs;cbv⟩
def U3:TG 493:=⟨_,by conv=>lhs;cbv⟩
def TH:TG 496:=⟨_,by conv=>lhs;cbv⟩
def T9:TG 500:=⟨_,by conv=>lhs;cbv⟩
def aL:List Nat:=[25,30,31,32,33,42,43,44,51,53,54,56,57,58,67,68,69,70,78,81,82,83,84,85,86,89,99,103,105,107,109,114,115,116,117,118,119,120,121,122,123,124,125,128,129,130,144,145,146,148,150,152,155,157,161,163,164,168,171,173,190,194,196,199,200,203,204,206,207,208,209,210,211,212,213,214,215,216,219,220,222,223,224,226,227,229,230,232,236,237,238,239,240,241,242,244,249,251,252,253,254,255,257,263,264,271,279,280,282,283,285,286,294,295,297,300,304,305,307,308,309,310,311,312,313,314,315,316,317,318,319,320,321,324,327,328,329,330,331,336,337,338,339,340,341,342,344,345,346,348,351,352,353,354,355,356,357,358,359,360,361,362,363,364,365,369,370,371,374,375,376,377,379,380,381,387,388,389,390,391,396,397,398]
def kpL(a b:List Nat)(l:List (List Nat))(i:Nat):List Nat:=bif Nat.beq i 1000000 then a else bif Nat.beq i 2000000 then b else l.getD i []
def aAL:Operand->Nat|.tmp t=>1<<<t|_=>0
def UA(l:List (Nat×Nat))(i:Nat):Nat:=match l with|[]=>0|p::r=>bif Nat.beq p.1 i then p.2 else UA r i
def aV8(o:Oper)(l:Nat):Nat:=match o.dst with|some d=>bif Nat.testBit l d then l-1<<<d else l|none=>l
def aLY(ops:List Oper)(l:Nat):List Oper->Nat|[]=>l|o::r=>let l:=aLY ops l r;let l:=o.op.operands.toList.foldl (fun l x=>l|||aAL x) (aV8 o l);match o.guard with|some (g,_)=>(match(ops[g]?).bind (·.dst)with|some t=>l|||1<<<t|none=>l)|none=>l
def live:Code->List (Nat×Nat)->Nat->Nat->List (Nat×Nat)->Nat×List (Nat×Nat)|.exit i,xs,_,_,c=>(UA xs i,c)|.ret,_,r,_,c=>(r,c)|.seq a b,xs,r,out,c=>let p:=live b xs r out c;live a xs r p.1 p.2|.cond x a b,xs,r,out,c=>let p:=live a xs r out c;let q:=live b xs r out p.2;(aAL x|||(p.1|||q.1),q.2)|.block i a,xs,r,out,c=>live a ((i,out)::xs) r out c|.loop a,xs,r,_,c=>let p:=live a xs r 0 c;live a xs r p.1 p.2|.region id ops _,_,_,out,c=>let l:=aLY ops.toList out ops.toList;(l,(id,l)::c)|.rangeFunc g ps a b,xs,r,out,c=>let p:=live b [] 0 0 c;let q:=live a [] 0 p.1 p.2;let s:=ps.toList.foldl (fun l t=>bif Nat.testBit l t then l-1<<<t else l) q.1;(aAL g|||(s|||xs.foldl (fun l e=>l|||e.2) (out|||r)),(2000000,UA q.2 2000000|||s)::q.2)|_,_,_,out,c=>(out,c)
def LY(f:Func):Code:=f.body.getD .skip
def aY0(f:Func):List (Nat×Nat):=let r:=f.results.toList.foldl (fun l x=>match x with|.tmp t=>l|||1<<<t|.cell p _=>l|||1<<<p) 0;(live (LY f) [] r r []).2
def ZO(n:Nat):Nat->Nat->List Nat|0,_=>[]|f+1,k=>bif Nat.testBit n k then k::ZO n f (k+1)else ZO n f (k+1)
def kq(f:Func):Nat->List Nat:=let l:=aY0 f;fun i=>bif Nat.beq i 1000000 then aL else ZO (UA l i) f.ntmps 0
structure GF(nt:Nat)(res:List ResultVar)(md:C9)(F:Func)(kp:Nat→List Nat:=kq F) where
 m:M
 h:cmp nt kp (LY F)=m
section
variable{nt:Nat}{res:List ResultVar}{md:C9}{F:Func}{kp:Nat->List Nat}
abbrev GF.fn(g:GF nt res md F kp):MFn:=⟨nt,res,g.m,md⟩
theorem fk{f:FuncId}(g:GF nt res md F kp)(h:Tryz.prog.funcs[f]?=some F)(h1:F.body=some (LY F):=by rfl)(h2:F.ntmps=nt:=by rfl)(h3:F.results.toList=res:=by kernel_rfl)(h4:(F.name=="runtime.NumGoroutine")=false:=by kernel_rfl):aWc Tryz.prog f g.fn:=⟨F,_,kp,h,h1,h2,h3,h4,g.h⟩
end
attribute [go_sem] GF.fn
structure Got(a:M) where
 m:M
 h:a=m
abbrev UL(a b:M):Prop:=∀{C:Ctx}{k:List It}{st:St}{Q:Ex->St->Prop},aT C (.code a::k) st Q↔aT C (.code b::k) st Q
theorem ul{a:M}{C:Ctx}{k:List It}{st:St}{Q:Ex->St->Prop}:aT C (.code a::k) st Q↔aT C (.code a::k) st Q:=Iff.rfl
def oG:M->List M|.seq a b=>oG a++oG b|.cond _ a b=>oG a++oG b|.block _ a=>oG a|.loop a=>a::oG a|.rf _ _ _ _ a b=>(a::oG a)++(b::oG b)|_=>[]
abbrev lpM(a:M)(k:Nat):M:=(oG a).getD k .bad
