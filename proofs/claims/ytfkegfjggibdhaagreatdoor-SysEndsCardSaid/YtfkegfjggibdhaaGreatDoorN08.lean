/- The evaluator's context: types and bodies, and that they are the program's. Printed by wip/ev/gen/ctx.py. -/
import Derived.Test.YtfkegfjggibdhaaGreatDoorN06
import Derived.Test.YtfkegfjggibdhaaGreatDoorChecked
set_option linter.all false
namespace Go.Proofs.YtfkegfjggibdhaaGreatDoor.Ev
open Go Go.RowKit
set_option maxRecDepth 100000
structure aM9(a:Option Ty) where
 t:Ty
 h:a=some t
abbrev TG(i:Nat):=aM9 (aAn Tryz.prog i)
def th1:TG 1:=⟨_,by conv=>lhs;cbv⟩
def th3:TG 3:=⟨_,by conv=>lhs;cbv⟩
def th4:TG 4:=⟨_,by conv=>lhs;cbv⟩
def th5:TG 5:=⟨_,by conv=>lhs;cbv⟩
def th9:TG 9:=⟨_,by conv=>lhs;cbv⟩
def aPN:TG 20:=⟨_,by conv=>lhs;cbv⟩
def aJ1:TG 21:=⟨_,by conv=>lhs;cbv⟩
def aOu:TG 22:=⟨_,by conv=>lhs;cbv⟩
def aRn:TG 23:=⟨_,by conv=>lhs;cbv⟩
def aI4:TG 24:=⟨_,by conv=>lhs;cbv⟩
def aOp:TG 25:=⟨_,by conv=>lhs;cbv⟩
def aQJ:TG 27:=⟨_,by conv=>lhs;cbv⟩
def aLz:TG 29:=⟨_,by conv=>lhs;cbv⟩
def aOC:TG 31:=⟨_,by conv=>lhs;cbv⟩
def aOz:TG 33:=⟨_,by conv=>lhs;cbv⟩
def aQI:TG 34:=⟨_,by conv=>lhs;cbv⟩
def aJx:TG 36:=⟨_,by conv=>lhs;cbv⟩
def aSS:Ty:=⟨(.array 14 36),42,56,(List.replicate 14 ([(.int .u8 0),(.int .u8 0),(.int .u16 0)]:List Value)).flatten,true⟩
def aJp:Ty:=⟨(.array 12 37),504,672,(List.replicate 168 ([(.int .u8 0),(.int .u8 0),(.int .u16 0)]:List Value)).flatten,true⟩
def aLe:TG 39:=⟨_,by conv=>lhs;cbv⟩
def aS9:Ty:=⟨(.array 4 39),60,80,(List.replicate 20 ([(.int .u8 0),(.int .u8 0),(.int .u16 0)]:List Value)).flatten,true⟩
def aGB:Ty:=⟨(.struct [(9,0,true),(38,1,true),(40,505,true)]),565,768,[(.string ⟨#[]⟩)]++(List.replicate 188 ([(.int .u8 0),(.int .u8 0),(.int .u16 0)]:List Value)).flatten,true⟩
def aSG:Ty:=⟨(.struct [(29,0,true),(31,10,true),(33,15,true),(42,20,true)]),585,960,[(.string ⟨#[]⟩),(.slice none 0 0),(.slice none 0 0),(.slice none 0 0),(.int .u8 0),(.int .u8 0),(.int .u8 0),(.int .u8 0),(.int .u8 0),(.slice none 0 0),(.int .i64 0),(.int .i64 0),(.int .i64 0),(.int .i64 0),(.int .i64 0),(.int .u8 0),(.int .u8 0),(.int .u8 0),(.int .i64 0),(.bool false),(.string ⟨#[]⟩)]++(List.replicate 188 ([(.int .u8 0),(.int .u8 0),(.int .u16 0)]:List Value)).flatten,true⟩
def aIR:TG 45:=⟨_,by conv=>lhs;cbv⟩
def aJ3:TG 46:=⟨_,by conv=>lhs;cbv⟩
def aMW:TG 49:=⟨_,by conv=>lhs;cbv⟩
def aMh:TG 50:=⟨_,by conv=>lhs;cbv⟩
def aPV:TG 51:=⟨_,by conv=>lhs;cbv⟩
def aJL:TG 52:=⟨_,by conv=>lhs;cbv⟩
def aOs:TG 54:=⟨_,by conv=>lhs;cbv⟩
def aRr:TG 55:=⟨_,by conv=>lhs;cbv⟩
def aQL:TG 56:=⟨_,by conv=>lhs;cbv⟩
def aRU:TG 58:=⟨_,by conv=>lhs;cbv⟩
def aKe:Ty:=⟨(.array 6 58),66,240,[(.int .u8 0),(.int .u8 0),(.int .u8 0),(.int .u64 0),(.bool false),(.int .u8 0),(.int .u8 0),(.int .u8 0),(.int .u8 0),(.int .u8 0),(.int .u8 0),(.int .u8 0),(.int .u8 0),(.int .u8 0),(.int .u64 0),(.bool false),(.int .u8 0),(.int .u8 0),(.int .u8 0),(.int .u8 0),(.int .u8 0),(.int .u8 0),(.int .u8 0),(.int .u8 0),(.int .u8 0),(.int .u64 0),(.bool false),(.int .u8 0),(.int .u8 0),(.int .u8 0),(.int .u8 0),(.int .u8 0),(.int .u8 0),(.int .u8 0),(.int .u8 0),(.int .u8 0),(.int .u64 0),(.bool false),(.int .u8 0),(.int .u8 0),(.int .u8 0),(.int .u8 0),(.int .u8 0),(.int .u8 0),(.int .u8 0),(.int .u8 0),(.int .u8 0),(.int .u64 0),(.bool false),(.int .u8 0),(.int .u8 0),(.int .u8 0),(.int .u8 0),(.int .u8 0),(.int .u8 0),(.int .u8 0),(.int .u8 0),(.int .u8 0),(.int .u64 0),(.bool false)]++(List.replicate 6 ([(.int .u8 0)]:List Value)).flatten,true⟩
def VZ:TG 60:=⟨_,by conv=>lhs;cbv⟩
def aOT:TG 62:=⟨_,by conv=>lhs;cbv⟩
def aSt:TG 63:=⟨_,by conv=>lhs;cbv⟩
def aS5:TG 66:=⟨_,by conv=>lhs;cbv⟩
def aQE:TG 69:=⟨_,by conv=>lhs;cbv⟩
def aBq:TG 73:=⟨_,by conv=>lhs;cbv⟩
def aOm:TG 75:=⟨_,by conv=>lhs;cbv⟩
def aPz:TG 79:=⟨_,by conv=>lhs;cbv⟩
def aMb:TG 81:=⟨_,by conv=>lhs;cbv⟩
def aPs:Ty:=⟨(.array 4 81),32,32,[(.int .u8 0),(.int .u8 0),(.int .i8 0),(.bool false),(.int .u8 0),(.int .u8 0),(.int .u8 0),(.int .u8 0),(.int .u8 0),(.int .u8 0),(.int .i8 0),(.bool false),(.int .u8 0),(.int .u8 0),(.int .u8 0),(.int .u8 0),(.int .u8 0),(.int .u8 0),(.int .i8 0),(.bool false),(.int .u8 0),(.int .u8 0),(.int .u8 0),(.int .u8 0),(.int .u8 0),(.int .u8 0),(.int .i8 0),(.bool false)]++(List.replicate 4 ([(.int .u8 0)]:List Value)).flatten,true⟩
def aMQ:Ty:=⟨(.array 4 82),128,128,[(.int .u8 0),(.int .u8 0),(.int .i8 0),(.bool false),(.int .u8 0),(.int .u8 0),(.int .u8 0),(.int .u8 0),(.int .u8 0),(.int .u8 0),(.int .i8 0),(.bool false),(.int .u8 0),(.int .u8 0),(.int .u8 0),(.int .u8 0),(.int .u8 0),(.int .u8 0),(.int .i8 0),(.bool false),(.int .u8 0),(.int .u8 0),(.int .u8 0),(.int .u8 0),(.int .u8 0),(.int .u8 0),(.int .i8 0),(.bool false),(.int .u8 0),(.int .u8 0),(.int .u8 0),(.int .u8 0),(.int .u8 0),(.int .u8 0),(.int .i8 0),(.bool false),(.int .u8 0),(.int .u8 0),(.int .u8 0),(.int .u8 0),(.int .u8 0),(.int .u8 0),(.int .i8 0),(.bool false),(.int .u8 0),(.int .u8 0),(.int .u8 0),(.int .u8 0),(.int .u8 0),(.int .u8 0),(.int .i8 0),(.bool false),(.int .u8 0),(.int .u8 0),(.int .u8 0),(.int .u8 0),(.int .u8 0),(.int .u8 0),(.int .i8 0),(.bool false),(.int .u8 0),(.int .u8 0),(.int .u8 0),(.int .u8 0),(.int .u8 0),(.int .u8 0),(.int .i8 0),(.bool false),(.int .u8 0),(.int .u8 0),(.int .u8 0),(.int .u8 0),(.int .u8 0),(.int .u8 0),(.int .i8 0),(.bool false),(.int .u8 0),(.int .u8 0),(.int .u8 0),(.int .u8 0),(.int .u8 0),(.int .u8 0),(.int .i8 0),(.bool false),(.int .u8 0),(.int .u8 0),(.int .u8 0),(.int .u8 0),(.int .u8 0),(.int .u8 0),(.int .i8 0),(.bool false),(.int .u8 0),(.int .u8 0),(.int .u8 0),(.int .u8 0),(.int .u8 0),(.int .u8 0),(.int .i8 0),(.bool false),(.int .u8 0),(.int .u8 0),(.int .u8 0),(.int .u8 0),(.int .u8 0),(.int .u8 0),(.int .i8 0),(.bool false),(.int .u8 0),(.int .u8 0),(.int .u8 0),(.int .u8 0),(.int .u8 0),(.int .u8 0),(.int .i8 0),(.bool false),(.int .u8 0),(.int .u8 0),(.int .u8 0),(.int .u8 0),(.int .u8 0),(.int .u8 0),(.int .i8 0),(.bool false)]++(List.replicate 4 ([(.int .u8 0)]:List Value)).flatten,true⟩
def aSZ:TG 85:=⟨_,by conv=>lhs;cbv⟩
def aKp:TG 86:=⟨_,by conv=>lhs;cbv⟩
def aRP:TG 88:=⟨_,by conv=>lhs;cbv⟩
def aLT:Ty:=⟨(.struct [(83,0,true),(86,128,true),(88,156,true)]),160,232,[(.int .u8 0),(.int .u8 0),(.int .i8 0),(.bool false),(.int .u8 0),(.int .u8 0),(.int .u8 0),(.int .u8 0),(.int .u8 0),(.int .u8 0),(.int .i8 0),(.bool false),(.int .u8 0),(.int .u8 0),(.int .u8 0),(.int .u8 0),(.int .u8 0),(.int .u8 0),(.int .i8 0),(.bool false),(.int .u8 0),(.int .u8 0),(.int .u8 0),(.int .u8 0),(.int .u8 0),(.int .u8 0),(.int .i8 0),(.bool false),(.int .u8 0),(.int .u8 0),(.int .u8 0),(.int .u8 0),(.int .u8 0),(.int .u8 0),(.int .i8 0),(.bool false),(.int .u8 0),(.int .u8 0),(.int .u8 0),(.int .u8 0),(.int .u8 0),(.int .u8 0),(.int .i8 0),(.bool false),(.int .u8 0),(.int .u8 0),(.int .u8 0),(.int .u8 0),(.int .u8 0),(.int .u8 0),(.int .i8 0),(.bool false),(.int .u8 0),(.int .u8 0),(.int .u8 0),(.int .u8 0),(.int .u8 0),(.int .u8 0),(.int .i8 0),(.bool false),(.int .u8 0),(.int .u8 0),(.int .u8 0),(.int .u8 0),(.int .u8 0),(.int .u8 0),(.int .i8 0),(.bool false),(.int .u8 0),(.int .u8 0),(.int .u8 0),(.int .u8 0),(.int .u8 0),(.int .u8 0),(.int .i8 0),(.bool false),(.int .u8 0),(.int .u8 0),(.int .u8 0),(.int .u8 0),(.int .u8 0),(.int .u8 0),(.int .i8 0),(.bool false),(.int .u8 0),(.int .u8 0),(.int .u8 0),(.int .u8 0),(.int .u8 0),(.int .u8 0),(.int .i8 0),(.bool false),(.int .u8 0),(.int .u8 0),(.int .u8 0),(.int .u8 0),(.int .u8 0),(.int .u8 0),(.int .i8 0),(.bool false),(.int .u8 0),(.int .u8 0),(.int .u8 0),(.int .u8 0),(.int .u8 0),(.int .u8 0),(.int .i8 0),(.bool false),(.int .u8 0),(.int .u8 0),(.int .u8 0),(.int .u8 0),(.int .u8 0),(.int .u8 0),(.int .i8 0),(.bool false),(.int .u8 0),(.int .u8 0),(.int .u8 0),(.int .u8 0),(.int .u8 0),(.int .u8 0),(.int .i8 0),(.bool false),(.int .u8 0),(.int .u8 0),(.int .u8 0),(.int .u8 0),(.int .u8 0),(.int .i64 0),(.int .u8 0),(.int .u8 0),(.int .u8 0),(.int .u8 0),(.int .u8 0),(.int .u8 0),(.int .i64 0),(.int .u8 0),(.int .u8 0),(.int .u8 0),(.int .u8 0),(.int .u8 0),(.int .u8 0),(.int .i64 0),(.int .u8 0),(.int .u8 0),(.int .u8 0),(.int .u8 0),(.int .u8 0),(.int .u8 0),(.int .i64 0)]++(List.replicate 9 ([(.int .u8 0)]:List Value)).flatten,true⟩
def aRe:TG 92:=⟨_,by conv=>lhs;cbv⟩
def T5:TG 93:=⟨_,by conv=>lhs;cbv⟩
def aIU:TG 95:=⟨_,by conv=>lhs;cbv⟩
def Y3:TG 104:=⟨_,by conv=>lhs;cbv⟩
def aCr:TG 107:=⟨_,by conv=>lhs;cbv⟩
def XW:TG 109:=⟨_,by conv=>lhs;cbv⟩
def aAY:TG 111:=⟨_,by conv=>lhs;cbv⟩
def aBG:TG 122:=⟨_,by conv=>lhs;cbv⟩
def aCn:TG 128:=⟨_,by conv=>lhs;cbv⟩
def aAj:TG 130:=⟨_,by conv=>lhs;cbv⟩
def XP:TG 132:=⟨_,by conv=>lhs;cbv⟩
def WF:TG 136:=⟨_,by conv=>lhs;cbv⟩
def W7:TG 145:=⟨_,by conv=>lhs;cbv⟩
def aAm:TG 149:=⟨_,by conv=>lhs;cbv⟩
def aAJ:Ty:=⟨(.struct [(149,0,true),(42,1,true)]),566,776,[(.int .u8 0),(.string ⟨#[]⟩)]++(List.replicate 188 ([(.int .u8 0),(.int .u8 0),(.int .u16 0)]:List Value)).flatten,true⟩
def Y2:TG 157:=⟨_,by conv=>lhs;cbv⟩
def aDf:TG 159:=⟨_,by conv=>lhs;cbv⟩
def ZL:TG 171:=⟨_,by conv=>lhs;cbv⟩
def KG:TG 178:=⟨_,by conv=>lhs;cbv⟩
def aAZ:TG 181:=⟨_,by conv=>lhs;cbv⟩
def aBO:TG 182:=⟨_,by conv=>lhs;cbv⟩
def aDq:TG 186:=⟨_,by conv=>lhs;cbv⟩
def X4:TG 187:=⟨_,by conv=>lhs;cbv⟩
def XA:TG 193:=⟨_,by conv=>lhs;cbv⟩
def WX:TG 199:=⟨_,by conv=>lhs;cbv⟩
def aCs:TG 202:=⟨_,by conv=>lhs;cbv⟩
def aBH:TG 203:=⟨_,by conv=>lhs;cbv⟩
def WP:TG 210:=⟨_,by conv=>lhs;cbv⟩
def aCJ:TG 213:=⟨_,by conv=>lhs;cbv⟩
def YT:TG 216:=⟨_,by conv=>lhs;cbv⟩
def aCB:TG 218:=⟨_,by conv=>lhs;cbv⟩
def aC9:TG 220:=⟨_,by conv=>lhs;cbv⟩
def aDG:TG 224:=⟨_,by conv=>lhs;cbv⟩
def aDB:TG 226:=⟨_,by conv=>lhs;cbv⟩
def YP:TG 228:=⟨_,by conv=>lhs;cbv⟩
def aC5:TG 230:=⟨_,by conv=>lhs;cbv⟩
def WZ:TG 233:=⟨_,by conv=>lhs;cbv⟩
def XN:TG 267:=⟨_,by conv=>lhs;cbv⟩
def X5:TG 268:=⟨_,by conv=>lhs;cbv⟩
def YK:TG 270:=⟨_,by conv=>lhs;cbv⟩
def ZG:TG 272:=⟨_,by conv=>lhs;cbv⟩
def aDL:TG 277:=⟨_,by conv=>lhs;cbv⟩
def aAK:TG 278:=⟨_,by conv=>lhs;cbv⟩
def aA0:TG 292:=⟨_,by conv=>lhs;cbv⟩
def aCV:TG 293:=⟨_,by conv=>lhs;cbv⟩
def aCP:TG 299:=⟨_,by conv=>lhs;cbv⟩
def aA5:TG 302:=⟨_,by conv=>lhs;cbv⟩
def aDC:TG 303:=⟨_,by conv=>lhs;cbv⟩
def X8:TG 305:=⟨_,by conv=>lhs;cbv⟩
def aBb:TG 306:=⟨_,by conv=>lhs;cbv⟩
def aCW:TG 316:=⟨_,by conv=>lhs;cbv⟩
def WI:TG 323:=⟨_,by conv=>lhs;cbv⟩
def aB1:TG 329:=⟨_,by conv=>lhs;cbv⟩
def ZY:TG 331:=⟨_,by conv=>lhs;cbv⟩
def aB6:TG 337:=⟨_,by conv=>lhs;cbv⟩
def YU:TG 340:=⟨_,by conv=>lhs;cbv⟩
def aBr:TG 342:=⟨_,by conv=>lhs;cbv⟩
def ZE:TG 344:=⟨_,by conv=>lhs;cbv⟩
def aC7:TG 347:=⟨_,by conv=>lhs;cbv⟩
def aAA:TG 349:=⟨_,by conv=>lhs;cbv⟩
def aDv:TG 352:=⟨_,by conv=>lhs;cbv⟩
def ZS:TG 353:=⟨_,by conv=>lhs;cbv⟩
def aDa:TG 356:=⟨_,by conv=>lhs;cbv⟩
def aDd:TG 357:=⟨_,by conv=>lhs;cbv⟩
def aAu:TG 358:=⟨_,by conv=>lhs;cbv⟩
def aBj:TG 360:=⟨_,by conv=>lhs;cbv⟩
def aC8:TG 362:=⟨_,by conv=>lhs;cbv⟩
def WM:TG 364:=⟨_,by conv=>lhs;cbv⟩
def WH:TG 368:=⟨_,by conv=>lhs;cbv⟩
def W8:TG 369:=⟨_,by conv=>lhs;cbv⟩
def aBa:TG 371:=⟨_,by conv=>lhs;cbv⟩
def aBY:TG 374:=⟨_,by conv=>lhs;cbv⟩
def aAM:TG 375:=⟨_,by conv=>lhs;cbv⟩
def aB8:TG 376:=⟨_,by conv=>lhs;cbv⟩
def aAF:TG 377:=⟨_,by conv=>lhs;cbv⟩
def aCi:Ty:=⟨(.array 7 377),105,1680,(List.replicate 105 ([(.string ⟨#[]⟩)]:List Value)).flatten,true⟩
def aC6:TG 383:=⟨_,by conv=>lhs;cbv⟩
def aB9:TG 385:=⟨_,by conv=>lhs;cbv⟩
def aDo:TG 390:=⟨_,by conv=>lhs;cbv⟩
def ZO:TG 394:=⟨_,by conv=>lhs;cbv⟩
def aAE:TG 403:=⟨_,by conv=>lhs;cbv⟩
def aAO:TG 406:=⟨_,by conv=>lhs;cbv⟩
def aAG:TG 411:=⟨_,by conv=>lhs;cbv⟩
def Z5:TG 417:=⟨_,by conv=>lhs;cbv⟩
def aDn:TG 419:=⟨_,by conv=>lhs;cbv⟩
def aDw:TG 422:=⟨_,by conv=>lhs;cbv⟩
def aDJ:TG 435:=⟨_,by conv=>lhs;cbv⟩
def aDF:Ty:=⟨(.array 64 5),64,64,(List.replicate 64 ([(.int .u8 0)]:List Value)).flatten,true⟩
def aL:List Nat:=[24,37,38,39,40,44,47,56,64,67,68,69,70,71,72,75,76,78,80,82,83,84,88,90,95,96,97,98,99,101,105,106,108,110,113,115,119,121,122,126,128,131,134,135,137,138,142,143,144,145,146,147,148,149,150,151,153,154,157,158,159,160,161,163,164,165,167,168,170,171,173,177,178,179,180,181,182,183,185,189,191,192,193,194,195,197,203,204,206,207,208,211,213,217,218,220,226,227,230,231,232,233,234,235,236,237,238,239,240,241,242,243,244,246,247,251,256,257,258,259,260,261,262,264,265,266,268,271,272,273,275,276,277,278,279,280,281,282,283,284,285,289,290,291,294,300,301,303,305,306,314,315,316,317,320,324,325,326,327]
def kpL(a b:List Nat)(l:List (List Nat))(i:Nat):List Nat:=bif Nat.beq i 1000000 then a else bif Nat.beq i 2000000 then b else l.getD i []
def aA9:Operand->Nat|.tmp t=>1<<<t|_=>0
def RS(l:List (Nat×Nat))(i:Nat):Nat:=match l with|[]=>0|p::r=>bif Nat.beq p.1 i then p.2 else RS r i
def aUV(o:Oper)(l:Nat):Nat:=match o.dst with|some d=>bif Nat.testBit l d then l-1<<<d else l|none=>l
def aH5(ops:List Oper)(l:Nat):List Oper->Nat|[]=>l|o::r=>let l:=aH5 ops l r;let l:=o.op.operands.toList.foldl (fun l x=>l|||aA9 x) (aUV o l);match o.guard with|some (g,_)=>(match(ops[g]?).bind (·.dst)with|some t=>l|||1<<<t|none=>l)|none=>l
def live:Code->List (Nat×Nat)->Nat->Nat->List (Nat×Nat)->Nat×List (Nat×Nat)|.exit i,xs,_,_,c=>(RS xs i,c)|.ret,_,r,_,c=>(r,c)|.seq a b,xs,r,out,c=>let p:=live b xs r out c;live a xs r p.1 p.2|.cond x a b,xs,r,out,c=>let p:=live a xs r out c;let q:=live b xs r out p.2;(aA9 x|||(p.1|||q.1),q.2)|.block i a,xs,r,out,c=>live a ((i,out)::xs) r out c|.loop a,xs,r,_,c=>let p:=live a xs r 0 c;live a xs r p.1 p.2|.region id ops _,_,_,out,c=>let l:=aH5 ops.toList out ops.toList;(l,(id,l)::c)|.rangeFunc g ps a b,xs,r,out,c=>let p:=live b [] 0 0 c;let q:=live a [] 0 p.1 p.2;let s:=ps.toList.foldl (fun l t=>bif Nat.testBit l t then l-1<<<t else l) q.1;(aA9 g|||(s|||xs.foldl (fun l e=>l|||e.2) (out|||r)),(2000000,RS q.2 2000000|||s)::q.2)|_,_,_,out,c=>(out,c)
def L7(f:Func):Code:=f.body.getD .skip
def aVX(f:Func):List (Nat×Nat):=let r:=f.results.toList.foldl (fun l x=>match x with|.tmp t=>l|||1<<<t|.cell p _=>l|||1<<<p) 0;(live (L7 f) [] r r []).2
def aCw(n:Nat):Nat->Nat->List Nat|0,_=>[]|f+1,k=>bif Nat.testBit n k then k::aCw n f (k+1)else aCw n f (k+1)
def kq(f:Func):Nat->List Nat:=let l:=aVX f;fun i=>bif Nat.beq i 1000000 then aL else aCw (RS l i) f.ntmps 0
structure GF(nt:Nat)(res:List ResultVar)(md:DZ)(F:Func)(kp:Nat→List Nat:=kq F) where
 m:M
 h:cmp nt kp (L7 F)=m
section
variable{nt:Nat}{res:List ResultVar}{md:DZ}{F:Func}{kp:Nat->List Nat}
abbrev GF.fn(g:GF nt res md F kp):MFn:=⟨nt,res,g.m,md⟩
theorem fk{f:FuncId}(g:GF nt res md F kp)(h:Tryz.prog.funcs[f]?=some F)(h1:F.body=some (L7 F):=by rfl)(h2:F.ntmps=nt:=by rfl)(h3:F.results.toList=res:=by kernel_rfl)(h4:(F.name=="runtime.NumGoroutine")=false:=by kernel_rfl):aWR Tryz.prog f g.fn:=⟨F,_,kp,h,h1,h2,h3,h4,g.h⟩
end
attribute [go_sem] GF.fn
structure Got(a:M) where
 m:M
 h:a=m
abbrev UL(a b:M):Prop:=∀{C:Ctx}{k:List It}{st:St}{Q:Ex->St->Prop},aY C (.code a::k) st Q↔aY C (.code b::k) st Q
theorem ul{a:M}{C:Ctx}{k:List It}{st:St}{Q:Ex->St->Prop}:aY C (.code a::k) st Q↔aY C (.code a::k) st Q:=im
def pK:M->List M|.seq a b=>pK a++pK b|.cond _ a b=>pK a++pK b|.block _ a=>pK a|.loop a=>a::pK a|.rf _ _ _ _ a b=>(a::pK a)++(b::pK b)|_=>[]
abbrev lpM(a:M)(k:Nat):M:=(pK a).getD k .bad
