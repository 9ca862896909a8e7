/- The evaluator's context: types and bodies, and that they are the program's. Printed by wip/ev/gen/ctx.py. -/
import Derived.Test.YtfkegfjggibdhaaGreatDoorV05
import Derived.Test.YtfkegfjggibdhaaGreatDoorChecked
set_option linter.all false
namespace Go.Proofs.YtfkegfjggibdhaaGreatDoor.Ev
open Go Go.RowKit
set_option maxRecDepth 100000
structure aMt(a:Option Ty) where
 t:Ty
 h:a=some t
abbrev TG(i:Nat):=aMt (ZG Tryz.prog i)
def th1:TG 1:=⟨_,by conv=>lhs;cbv⟩
def th3:TG 3:=⟨_,by conv=>lhs;cbv⟩
def th4:TG 4:=⟨_,by conv=>lhs;cbv⟩
def th5:TG 5:=⟨_,by conv=>lhs;cbv⟩
def th9:TG 9:=⟨_,by conv=>lhs;cbv⟩
def aRf:TG 20:=⟨_,by conv=>lhs;cbv⟩
def aQX:TG 21:=⟨_,by conv=>lhs;cbv⟩
def aLb:TG 22:=⟨_,by conv=>lhs;cbv⟩
def aSw:TG 23:=⟨_,by conv=>lhs;cbv⟩
def aPH:TG 24:=⟨_,by conv=>lhs;cbv⟩
def aMU:TG 25:=⟨_,by conv=>lhs;cbv⟩
def aNw:TG 27:=⟨_,by conv=>lhs;cbv⟩
def aK5:TG 29:=⟨_,by conv=>lhs;cbv⟩
def aMC:TG 31:=⟨_,by conv=>lhs;cbv⟩
def aKl:TG 33:=⟨_,by conv=>lhs;cbv⟩
def aMb:TG 34:=⟨_,by conv=>lhs;cbv⟩
def aSZ:TG 36:=⟨_,by conv=>lhs;cbv⟩
def aSt:Ty:=⟨(.array 14 36),42,56,(List.replicate 14 ([(.int .u8 0),(.int .u8 0),(.int .u16 0)]:List Value)).flatten,true⟩
def aMA:Ty:=⟨(.array 12 37),504,672,(List.replicate 168 ([(.int .u8 0),(.int .u8 0),(.int .u16 0)]:List Value)).flatten,true⟩
def aJ5:TG 39:=⟨_,by conv=>lhs;cbv⟩
def aLr:Ty:=⟨(.array 4 39),60,80,(List.replicate 20 ([(.int .u8 0),(.int .u8 0),(.int .u16 0)]:List Value)).flatten,true⟩
def aHx:Ty:=⟨(.struct [(9,0,true),(38,1,true),(40,505,true)]),565,768,[(.string ⟨#[]⟩)]++(List.replicate 188 ([(.int .u8 0),(.int .u8 0),(.int .u16 0)]:List Value)).flatten,true⟩
def aQb:Ty:=⟨(.struct [(29,0,true),(31,10,true),(33,15,true),(42,20,true)]),585,960,[(.string ⟨#[]⟩),(.slice none 0 0),(.slice none 0 0),(.slice none 0 0),(.int .u8 0),(.int .u8 0),(.int .u8 0),(.int .u8 0),(.int .u8 0),(.slice none 0 0),(.int .i64 0),(.int .i64 0),(.int .i64 0),(.int .i64 0),(.int .i64 0),(.int .u8 0),(.int .u8 0),(.int .u8 0),(.int .i64 0),(.bool false),(.string ⟨#[]⟩)]++(List.replicate 188 ([(.int .u8 0),(.int .u8 0),(.int .u16 0)]:List Value)).flatten,true⟩
def aP6:TG 45:=⟨_,by conv=>lhs;cbv⟩
def aKK:TG 46:=⟨_,by conv=>lhs;cbv⟩
def aSk:TG 49:=⟨_,by conv=>lhs;cbv⟩
def aQB:TG 50:=⟨_,by conv=>lhs;cbv⟩
def aSq:TG 51:=⟨_,by conv=>lhs;cbv⟩
def aNx:TG 52:=⟨_,by conv=>lhs;cbv⟩
def aKb:TG 54:=⟨_,by conv=>lhs;cbv⟩
def aLs:TG 55:=⟨_,by conv=>lhs;cbv⟩
def aSv:TG 56:=⟨_,by conv=>lhs;cbv⟩
def aNN:TG 58:=⟨_,by conv=>lhs;cbv⟩
def aJi:Ty:=⟨(.array 6 58),66,240,[(.int .u8 0),(.int .u8 0),(.int .u8 0),(.int .u64 0),(.bool false),(.int .u8 0),(.int .u8 0),(.int .u8 0),(.int .u8 0),(.int .u8 0),(.int .u8 0),(.int .u8 0),(.int .u8 0),(.int .u8 0),(.int .u64 0),(.bool false),(.int .u8 0),(.int .u8 0),(.int .u8 0),(.int .u8 0),(.int .u8 0),(.int .u8 0),(.int .u8 0),(.int .u8 0),(.int .u8 0),(.int .u64 0),(.bool false),(.int .u8 0),(.int .u8 0),(.int .u8 0),(.int .u8 0),(.int .u8 0),(.int .u8 0),(.int .u8 0),(.int .u8 0),(.int .u8 0),(.int .u64 0),(.bool false),(.int .u8 0),(.int .u8 0),(.int .u8 0),(.int .u8 0),(.int .u8 0),(.int .u8 0),(.int .u8 0),(.int .u8 0),(.int .u8 0),(.int .u64 0),(.bool false),(.int .u8 0),(.int .u8 0),(.int .u8 0),(.int .u8 0),(.int .u8 0),(.int .u8 0),(.int .u8 0),(.int .u8 0),(.int .u8 0),(.int .u64 0),(.bool false)]++(List.replicate 6 ([(.int .u8 0)]:List Value)).flatten,true⟩
def VH:TG 60:=⟨_,by conv=>lhs;cbv⟩
def aSo:TG 62:=⟨_,by conv=>lhs;cbv⟩
def aNI:TG 63:=⟨_,by conv=>lhs;cbv⟩
def aMf:TG 66:=⟨_,by conv=>lhs;cbv⟩
def aPW:TG 69:=⟨_,by conv=>lhs;cbv⟩
def YG:TG 73:=⟨_,by conv=>lhs;cbv⟩
def aOo:TG 75:=⟨_,by conv=>lhs;cbv⟩
def aPM:TG 79:=⟨_,by conv=>lhs;cbv⟩
def aSA:TG 81:=⟨_,by conv=>lhs;cbv⟩
def aQt:Ty:=⟨(.array 4 81),32,32,[(.int .u8 0),(.int .u8 0),(.int .i8 0),(.bool false),(.int .u8 0),(.int .u8 0),(.int .u8 0),(.int .u8 0),(.int .u8 0),(.int .u8 0),(.int .i8 0),(.bool false),(.int .u8 0),(.int .u8 0),(.int .u8 0),(.int .u8 0),(.int .u8 0),(.int .u8 0),(.int .i8 0),(.bool false),(.int .u8 0),(.int .u8 0),(.int .u8 0),(.int .u8 0),(.int .u8 0),(.int .u8 0),(.int .i8 0),(.bool false)]++(List.replicate 4 ([(.int .u8 0)]:List Value)).flatten,true⟩
def aR1:Ty:=⟨(.array 4 82),128,128,[(.int .u8 0),(.int .u8 0),(.int .i8 0),(.bool false),(.int .u8 0),(.int .u8 0),(.int .u8 0),(.int .u8 0),(.int .u8 0),(.int .u8 0),(.int .i8 0),(.bool false),(.int .u8 0),(.int .u8 0),(.int .u8 0),(.int .u8 0),(.int .u8 0),(.int .u8 0),(.int .i8 0),(.bool false),(.int .u8 0),(.int .u8 0),(.int .u8 0),(.int .u8 0),(.int .u8 0),(.int .u8 0),(.int .i8 0),(.bool false),(.int .u8 0),(.int .u8 0),(.int .u8 0),(.int .u8 0),(.int .u8 0),(.int .u8 0),(.int .i8 0),(.bool false),(.int .u8 0),(.int .u8 0),(.int .u8 0),(.int .u8 0),(.int .u8 0),(.int .u8 0),(.int .i8 0),(.bool false),(.int .u8 0),(.int .u8 0),(.int .u8 0),(.int .u8 0),(.int .u8 0),(.int .u8 0),(.int .i8 0),(.bool false),(.int .u8 0),(.int .u8 0),(.int .u8 0),(.int .u8 0),(.int .u8 0),(.int .u8 0),(.int .i8 0),(.bool false),(.int .u8 0),(.int .u8 0),(.int .u8 0),(.int .u8 0),(.int .u8 0),(.int .u8 0),(.int .i8 0),(.bool false),(.int .u8 0),(.int .u8 0),(.int .u8 0),(.int .u8 0),(.int .u8 0),(.int .u8 0),(.int .i8 0),(.bool false),(.int .u8 0),(.int .u8 0),(.int .u8 0),(.int .u8 0),(.int .u8 0),(.int .u8 0),(.int .i8 0),(.bool false),(.int .u8 0),(.int .u8 0),(.int .u8 0),(.int .u8 0),(.int .u8 0),(.int .u8 0),(.int .i8 0),(.bool false),(.int .u8 0),(.int .u8 0),(.int .u8 0),(.int .u8 0),(.int .u8 0),(.int .u8 0),(.int .i8 0),(.bool false),(.int .u8 0),(.int .u8 0),(.int .u8 0),(.int .u8 0),(.int .u8 0),(.int .u8 0),(.int .i8 0),(.bool false),(.int .u8 0),(.int .u8 0),(.int .u8 0),(.int .u8 0),(.int .u8 0),(.int .u8 0),(.int .i8 0),(.bool false),(.int .u8 0),(.int .u8 0),(.int .u8 0),(.int .u8 0),(.int .u8 0),(.int .u8 0),(.int .i8 0),(.bool false)]++(List.replicate 4 ([(.int .u8 0)]:List Value)).flatten,true⟩
def aSc:TG 85:=⟨_,by conv=>lhs;cbv⟩
def aPR:TG 86:=⟨_,by conv=>lhs;cbv⟩
def aRe:TG 88:=⟨_,by conv=>lhs;cbv⟩
def aI5:Ty:=⟨(.struct [(83,0,true),(86,128,true),(88,156,true)]),160,232,[(.int .u8 0),(.int .u8 0),(.int .i8 0),(.bool false),(.int .u8 0),(.int .u8 0),(.int .u8 0),(.int .u8 0),(.int .u8 0),(.int .u8 0),(.int .i8 0),(.bool false),(.int .u8 0),(.int .u8 0),(.int .u8 0),(.int .u8 0),(.int .u8 0),(.int .u8 0),(.int .i8 0),(.bool false),(.int .u8 0),(.int .u8 0),(.int .u8 0),(.int .u8 0),(.int .u8 0),(.int .u8 0),(.int .i8 0),(.bool false),(.int .u8 0),(.int .u8 0),(.int .u8 0),(.int .u8 0),(.int .u8 0),(.int .u8 0),(.int .i8 0),(.bool false),(.int .u8 0),(.int .u8 0),(.int .u8 0),(.int .u8 0),(.int .u8 0),(.int .u8 0),(.int .i8 0),(.bool false),(.int .u8 0),(.int .u8 0),(.int .u8 0),(.int .u8 0),(.int .u8 0),(.int .u8 0),(.int .i8 0),(.bool false),(.int .u8 0),(.int .u8 0),(.int .u8 0),(.int .u8 0),(.int .u8 0),(.int .u8 0),(.int .i8 0),(.bool false),(.int .u8 0),(.int .u8 0),(.int .u8 0),(.int .u8 0),(.int .u8 0),(.int .u8 0),(.int .i8 0),(.bool false),(.int .u8 0),(.int .u8 0),(.int .u8 0),(.int .u8 0),(.int .u8 0),(.int .u8 0),(.int .i8 0),(.bool false),(.int .u8 0),(.int .u8 0),(.int .u8 0),(.int .u8 0),(.int .u8 0),(.int .u8 0),(.int .i8 0),(.bool false),(.int .u8 0),(.int .u8 0),(.int .u8 0),(.int .u8 0),(.int .u8 0),(.int .u8 0),(.int .i8 0),(.bool false),(.int .u8 0),(.int .u8 0),(.int .u8 0),(.int .u8 0),(.int .u8 0),(.int .u8 0),(.int .i8 0),(.bool false),(.int .u8 0),(.int .u8 0),(.int .u8 0),(.int .u8 0),(.int .u8 0),(.int .u8 0),(.int .i8 0),(.bool false),(.int .u8 0),(.int .u8 0),(.int .u8 0),(.int .u8 0),(.int .u8 0),(.int .u8 0),(.int .i8 0),(.bool false),(.int .u8 0),(.int .u8 0),(.int .u8 0),(.int .u8 0),(.int .u8 0),(.int .u8 0),(.int .i8 0),(.bool false),(.int .u8 0),(.int .u8 0),(.int .u8 0),(.int .u8 0),(.int .u8 0),(.int .i64 0),(.int .u8 0),(.int .u8 0),(.int .u8 0),(.int .u8 0),(.int .u8 0),(.int .u8 0),(.int .i64 0),(.int .u8 0),(.int .u8 0),(.int .u8 0),(.int .u8 0),(.int .u8 0),(.int .u8 0),(.int .i64 0),(.int .u8 0),(.int .u8 0),(.int .u8 0),(.int .u8 0),(.int .u8 0),(.int .u8 0),(.int .i64 0)]++(List.replicate 9 ([(.int .u8 0)]:List Value)).flatten,true⟩
def aRC:TG 92:=⟨_,by conv=>lhs;cbv⟩
def UF:TG 93:=⟨_,by conv=>lhs;cbv⟩
def aRq:TG 95:=⟨_,by conv=>lhs;cbv⟩
def aC5:TG 101:=⟨_,by conv=>lhs;cbv⟩
def aCS:TG 104:=⟨_,by conv=>lhs;cbv⟩
def aBr:TG 107:=⟨_,by conv=>lhs;cbv⟩
def aA6:TG 109:=⟨_,by conv=>lhs;cbv⟩
def W5:TG 111:=⟨_,by conv=>lhs;cbv⟩
def aCA:TG 122:=⟨_,by conv=>lhs;cbv⟩
def aBQ:TG 128:=⟨_,by conv=>lhs;cbv⟩
def aBs:TG 130:=⟨_,by conv=>lhs;cbv⟩
def aBy:TG 132:=⟨_,by conv=>lhs;cbv⟩
def WL:TG 136:=⟨_,by conv=>lhs;cbv⟩
def aDc:TG 145:=⟨_,by conv=>lhs;cbv⟩
def aDM:TG 149:=⟨_,by conv=>lhs;cbv⟩
def W9:Ty:=⟨(.struct [(149,0,true),(42,1,true)]),566,776,[(.int .u8 0),(.string ⟨#[]⟩)]++(List.replicate 188 ([(.int .u8 0),(.int .u8 0),(.int .u16 0)]:List Value)).flatten,true⟩
def YA:TG 157:=⟨_,by conv=>lhs;cbv⟩
def Z4:TG 159:=⟨_,by conv=>lhs;cbv⟩
def aDQ:TG 171:=⟨_,by conv=>lhs;cbv⟩
def JG:TG 178:=⟨_,by conv=>lhs;cbv⟩
def Y2:TG 181:=⟨_,by conv=>lhs;cbv⟩
def aDV:TG 182:=⟨_,by conv=>lhs;cbv⟩
def ZT:TG 186:=⟨_,by conv=>lhs;cbv⟩
def W3:TG 187:=⟨_,by conv=>lhs;cbv⟩
def Z6:TG 193:=⟨_,by conv=>lhs;cbv⟩
def aAJ:TG 199:=⟨_,by conv=>lhs;cbv⟩
def XY:TG 202:=⟨_,by conv=>lhs;cbv⟩
def ZX:TG 203:=⟨_,by conv=>lhs;cbv⟩
def WO:TG 210:=⟨_,by conv=>lhs;cbv⟩
def aDn:TG 213:=⟨_,by conv=>lhs;cbv⟩
def aAX:TG 216:=⟨_,by conv=>lhs;cbv⟩
def Y1:TG 218:=⟨_,by conv=>lhs;cbv⟩
def Y5:TG 220:=⟨_,by conv=>lhs;cbv⟩
def aBw:TG 224:=⟨_,by conv=>lhs;cbv⟩
def aDT:TG 226:=⟨_,by conv=>lhs;cbv⟩
def aCU:TG 228:=⟨_,by conv=>lhs;cbv⟩
def aAE:TG 230:=⟨_,by conv=>lhs;cbv⟩
def aAu:TG 233:=⟨_,by conv=>lhs;cbv⟩
def aCX:TG 267:=⟨_,by conv=>lhs;cbv⟩
def aCI:TG 268:=⟨_,by conv=>lhs;cbv⟩
def aCO:TG 270:=⟨_,by conv=>lhs;cbv⟩
def Y6:TG 272:=⟨_,by conv=>lhs;cbv⟩
def aDa:TG 277:=⟨_,by conv=>lhs;cbv⟩
def WM:TG 278:=⟨_,by conv=>lhs;cbv⟩
def aBq:TG 292:=⟨_,by conv=>lhs;cbv⟩
def aB4:TG 293:=⟨_,by conv=>lhs;cbv⟩
def aBM:TG 299:=⟨_,by conv=>lhs;cbv⟩
def Z7:TG 302:=⟨_,by conv=>lhs;cbv⟩
def aBx:TG 303:=⟨_,by conv=>lhs;cbv⟩
def aC1:TG 305:=⟨_,by conv=>lhs;cbv⟩
def aAz:TG 306:=⟨_,by conv=>lhs;cbv⟩
def Z9:TG 316:=⟨_,by conv=>lhs;cbv⟩
def XS:TG 323:=⟨_,by conv=>lhs;cbv⟩
def aBc:TG 329:=⟨_,by conv=>lhs;cbv⟩
def WR:TG 331:=⟨_,by conv=>lhs;cbv⟩
def aBG:TG 337:=⟨_,by conv=>lhs;cbv⟩
def W4:TG 340:=⟨_,by conv=>lhs;cbv⟩
def aDu:TG 342:=⟨_,by conv=>lhs;cbv⟩
def aAj:TG 344:=⟨_,by conv=>lhs;cbv⟩
def XK:TG 347:=⟨_,by conv=>lhs;cbv⟩
def aAc:TG 349:=⟨_,by conv=>lhs;cbv⟩
def aDF:TG 352:=⟨_,by conv=>lhs;cbv⟩
def aBi:TG 353:=⟨_,by conv=>lhs;cbv⟩
def aC9:TG 356:=⟨_,by conv=>lhs;cbv⟩
def Z0:TG 357:=⟨_,by conv=>lhs;cbv⟩
def aCx:TG 358:=⟨_,by conv=>lhs;cbv⟩
def aAI:TG 360:=⟨_,by conv=>lhs;cbv⟩
def aDB:TG 362:=⟨_,by conv=>lhs;cbv⟩
def aAe:TG 364:=⟨_,by conv=>lhs;cbv⟩
def aBE:TG 368:=⟨_,by conv=>lhs;cbv⟩
def aCW:TG 369:=⟨_,by conv=>lhs;cbv⟩
def aDP:TG 371:=⟨_,by conv=>lhs;cbv⟩
def aCY:TG 374:=⟨_,by conv=>lhs;cbv⟩
def aDN:TG 375:=⟨_,by conv=>lhs;cbv⟩
def aDw:TG 376:=⟨_,by conv=>lhs;cbv⟩
def aBA:TG 377:=⟨_,by conv=>lhs;cbv⟩
def aCn:Ty:=⟨(.array 7 377),105,1680,(List.replicate 105 ([(.string ⟨#[]⟩)]:List Value)).flatten,true⟩
def aBV:TG 383:=⟨_,by conv=>lhs;cbv⟩
def aB5:TG 385:=⟨_,by conv=>lhs;cbv⟩
def W2:TG 390:=⟨_,by conv=>lhs;cbv⟩
def aDb:TG 394:=⟨_,by conv=>lhs;cbv⟩
def YX:TG 403:=⟨_,by conv=>lhs;cbv⟩
def aAn:TG 406:=⟨_,by conv=>lhs;cbv⟩
def aBP:TG 411:=⟨_,by conv=>lhs;cbv⟩
def aAp:TG 417:=⟨_,by conv=>lhs;cbv⟩
def X7:TG 419:=⟨_,by conv=>lhs;cbv⟩
def aBH:TG 422:=⟨_,by conv=>lhs;cbv⟩
def aCa:TG 435:=⟨_,by conv=>lhs;cbv⟩
def XA:Ty:=⟨(.array 64 5),64,64,(List.replicate 64 ([(.int .u8 0)]:List Value)).flatten,true⟩
def aL:List Nat:=[24,37,38,39,40,44,47,56,64,67,68,69,70,71,72,75,76,78,80,82,83,84,88,90,95,96,97,98,99,101,105,106,108,110,113,115,119,121,122,126,128,131,134,135,137,138,142,143,144,145,146,147,148,149,150,151,153,154,157,158,159,160,161,163,164,165,167,168,170,171,173,177,178,179,180,181,182,183,185,189,191,192,193,194,195,197,203,204,206,207,208,211,213,217,218,220,226,227,230,231,232,233,234,235,236,237,238,239,240,241,242,243,244,246,247,251,256,257,258,259,260,261,262,264,265,266,268,271,272,273,275,276,277,278,279,280,281,282,283,284,285,289,290,291,294,300,301,303,305,306,314,315,316,317,320,324,325,326,327]
def kpL(a b:List Nat)(l:List (List Nat))(i:Nat):List Nat:=bif Nat.beq i 1000000 then a else bif Nat.beq i 2000000 then b else l.getD i []
def ZQ:Operand->Nat|.tmp t=>1<<<t|_=>0
def RQ(l:List (Nat×Nat))(i:Nat):Nat:=match l with|[]=>0|p::r=>bif Nat.beq p.1 i then p.2 else RQ r i
def aTY(o:Oper)(l:Nat):Nat:=match o.dst with|some d=>bif Nat.testBit l d then l-1<<<d else l|none=>l
def aIs(ops:List Oper)(l:Nat):List Oper->Nat|[]=>l|o::r=>let l:=aIs ops l r;let l:=o.op.operands.toList.foldl (fun l x=>l|||ZQ x) (aTY o l);match o.guard with|some (g,_)=>(match(ops[g]?).bind (·.dst)with|some t=>l|||1<<<t|none=>l)|none=>l
def live:Code->List (Nat×Nat)->Nat->Nat->List (Nat×Nat)->Nat×List (Nat×Nat)|.exit i,xs,_,_,c=>(RQ xs i,c)|.ret,_,r,_,c=>(r,c)|.seq a b,xs,r,out,c=>let p:=live b xs r out c;live a xs r p.1 p.2|.cond x a b,xs,r,out,c=>let p:=live a xs r out c;let q:=live b xs r out p.2;(ZQ x|||(p.1|||q.1),q.2)|.block i a,xs,r,out,c=>live a ((i,out)::xs) r out c|.loop a,xs,r,_,c=>let p:=live a xs r 0 c;live a xs r p.1 p.2|.region id ops _,_,_,out,c=>let l:=aIs ops.toList out ops.toList;(l,(id,l)::c)|.rangeFunc g ps a b,xs,r,out,c=>let p:=live b [] 0 0 c;let q:=live a [] 0 p.1 p.2;let s:=ps.toList.foldl (fun l t=>bif Nat.testBit l t then l-1<<<t else l) q.1;(ZQ g|||(s|||xs.foldl (fun l e=>l|||e.2) (out|||r)),(2000000,RQ q.2 2000000|||s)::q.2)|_,_,_,out,c=>(out,c)
def OO(f:Func):Code:=f.body.getD .skip
def aVP(f:Func):List (Nat×Nat):=let r:=f.results.toList.foldl (fun l x=>match x with|.tmp t=>l|||1<<<t|.cell p _=>l|||1<<<p) 0;(live (OO f) [] r r []).2
def WP(n:Nat):Nat->Nat->List Nat|0,_=>[]|f+1,k=>bif Nat.testBit n k then k::WP n f (k+1)else WP n f (k+1)
def kq(f:Func):Nat->List Nat:=let l:=aVP f;fun i=>bif Nat.beq i 1000000 then aL else WP (RQ l i) f.ntmps 0
structure GF(nt:Nat)(res:List ResultVar)(md:EH)(F:Func)(kp:Nat→List Nat:=kq F) where
 m:M
 h:cmp nt kp (OO F)=m
section
variable{nt:Nat}{res:List ResultVar}{md:EH}{F:Func}{kp:Nat->List Nat}
abbrev GF.fn(g:GF nt res md F kp):MFn:=⟨nt,res,g.m,md⟩
theorem fk{f:FuncId}(g:GF nt res md F kp)(h:Tryz.prog.funcs[f]?=some F)(h1:F.body=some (OO F):=by rfl)(h2:F.ntmps=nt:=by rfl)(h3:F.results.toList=res:=by kernel_rfl)(h4:(F.name=="runtime.NumGoroutine")=false:=by kernel_rfl):aUr Tryz.prog f g.fn:=⟨F,_,kp,h,h1,h2,h3,h4,g.h⟩
end
attribute [go_sem] GF.fn
structure Got(a:M) where
 m:M
 h:a=m
abbrev UL(a b:M):Prop:=∀{C:Ctx}{k:List It}{st:St}{Q:Ex->St->Prop},aW C (.code a::k) st Q↔aW C (.code b::k) st Q
theorem ul{a:M}{C:Ctx}{k:List It}{st:St}{Q:Ex->St->Prop}:aW C (.code a::k) st Q↔aW C (.code a::k) st Q:=gz
def pN:M->List M|.seq a b=>pN a++pN b|.cond _ a b=>pN a++pN b|.block _ a=>pN a|.loop a=>a::pN a|.rf _ _ _ _ a b=>(a::pN a)++(b::pN b)|_=>[]
abbrev lpM(a:M)(k:Nat):M:=(pN a).getD k .bad
