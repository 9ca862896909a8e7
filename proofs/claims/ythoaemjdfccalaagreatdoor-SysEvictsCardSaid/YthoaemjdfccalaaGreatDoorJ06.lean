/- The evaluator's context: types and bodies, and that they are the program's. Printed by wip/ev/gen/ctx.py. -/
import Derived.Test.YthoaemjdfccalaaGreatDoorJ04
import Derived.Test.YthoaemjdfccalaaGreatDoorChecked
set_option linter.all false
namespace Go.Proofs.YthoaemjdfccalaaGreatDoor.Ev
open Go Go.RowKit
set_option maxRecDepth 100000
structure aXD(a:Option Ty) where
 t:Ty
 h:a=some t
abbrev TG(i:Nat):=aXD (qK Tryz.prog i)
def th1:TG 1:=⟨_,by conv=>lhs;cbv⟩
def th3:TG 3:=⟨_,by conv=>lhs;cbv⟩
def th4:TG 4:=⟨_,by conv=>lhs;cbv⟩
def th5:TG 5:=⟨_,by conv=>lhs;cbv⟩
def th9:TG 9:=⟨_,by conv=>lhs;cbv⟩
def aI4:TG 20:=⟨_,by conv=>lhs;cbv⟩
def aH6:TG 21:=⟨_,by conv=>lhs;cbv⟩
def aGc:TG 22:=⟨_,by conv=>lhs;cbv⟩
def aEq:TG 23:=⟨_,by conv=>lhs;cbv⟩
def aFf:TG 24:=⟨_,by conv=>lhs;cbv⟩
def aHp:TG 25:=⟨_,by conv=>lhs;cbv⟩
def aEV:TG 27:=⟨_,by conv=>lhs;cbv⟩
def aGE:TG 29:=⟨_,by conv=>lhs;cbv⟩
def aIY:TG 31:=⟨_,by conv=>lhs;cbv⟩
def aEv:TG 33:=⟨_,by conv=>lhs;cbv⟩
def aIP:TG 34:=⟨_,by conv=>lhs;cbv⟩
def aH7:TG 36:=⟨_,by conv=>lhs;cbv⟩
def aG1:Ty:=⟨(.array 14 36),42,56,(List.replicate 14 ([(.int .u8 0),(.int .u8 0),(.int .u16 0)]:List Value)).flatten,true⟩
def aFA:Ty:=⟨(.array 12 37),504,672,(List.replicate 168 ([(.int .u8 0),(.int .u8 0),(.int .u16 0)]:List Value)).flatten,true⟩
def aH0:TG 39:=⟨_,by conv=>lhs;cbv⟩
def aEN:Ty:=⟨(.array 4 39),60,80,(List.replicate 20 ([(.int .u8 0),(.int .u8 0),(.int .u16 0)]:List Value)).flatten,true⟩
def aAd:Ty:=⟨(.struct [(9,0,true),(38,1,true),(40,505,true)]),565,768,[(.string ⟨#[]⟩)]++(List.replicate 188 ([(.int .u8 0),(.int .u8 0),(.int .u16 0)]:List Value)).flatten,true⟩
def aJf:Ty:=⟨(.struct [(29,0,true),(31,10,true),(33,15,true),(42,20,true)]),585,960,[(.string ⟨#[]⟩),(.slice none 0 0),(.slice none 0 0),(.slice none 0 0),(.int .u8 0),(.int .u8 0),(.int .u8 0),(.int .u8 0),(.int .u8 0),(.slice none 0 0),(.int .i64 0),(.int .i64 0),(.int .i64 0),(.int .i64 0),(.int .i64 0),(.int .u8 0),(.int .u8 0),(.int .u8 0),(.int .i64 0),(.bool false),(.string ⟨#[]⟩)]++(List.replicate 188 ([(.int .u8 0),(.int .u8 0),(.int .u16 0)]:List Value)).flatten,true⟩
def aFq:TG 45:=⟨_,by conv=>lhs;cbv⟩
def aGW:TG 46:=⟨_,by conv=>lhs;cbv⟩
def aDe:TG 49:=⟨_,by conv=>lhs;cbv⟩
def aGH:TG 50:=⟨_,by conv=>lhs;cbv⟩
def aFN:TG 51:=⟨_,by conv=>lhs;cbv⟩
def aHQ:TG 52:=⟨_,by conv=>lhs;cbv⟩
def aG6:TG 54:=⟨_,by conv=>lhs;cbv⟩
def aDq:TG 55:=⟨_,by conv=>lhs;cbv⟩
def aC8:TG 56:=⟨_,by conv=>lhs;cbv⟩
def aG7:TG 58:=⟨_,by conv=>lhs;cbv⟩
def aHc:Ty:=⟨(.array 6 58),66,240,[(.int .u8 0),(.int .u8 0),(.int .u8 0),(.int .u64 0),(.bool false),(.int .u8 0),(.int .u8 0),(.int .u8 0),(.int .u8 0),(.int .u8 0),(.int .u8 0),(.int .u8 0),(.int .u8 0),(.int .u8 0),(.int .u64 0),(.bool false),(.int .u8 0),(.int .u8 0),(.int .u8 0),(.int .u8 0),(.int .u8 0),(.int .u8 0),(.int .u8 0),(.int .u8 0),(.int .u8 0),(.int .u64 0),(.bool false),(.int .u8 0),(.int .u8 0),(.int .u8 0),(.int .u8 0),(.int .u8 0),(.int .u8 0),(.int .u8 0),(.int .u8 0),(.int .u8 0),(.int .u64 0),(.bool false),(.int .u8 0),(.int .u8 0),(.int .u8 0),(.int .u8 0),(.int .u8 0),(.int .u8 0),(.int .u8 0),(.int .u8 0),(.int .u8 0),(.int .u64 0),(.bool false),(.int .u8 0),(.int .u8 0),(.int .u8 0),(.int .u8 0),(.int .u8 0),(.int .u8 0),(.int .u8 0),(.int .u8 0),(.int .u8 0),(.int .u64 0),(.bool false)]++(List.replicate 6 ([(.int .u8 0)]:List Value)).flatten,true⟩
def MO:TG 60:=⟨_,by conv=>lhs;cbv⟩
def aID:TG 62:=⟨_,by conv=>lhs;cbv⟩
def aHI:TG 63:=⟨_,by conv=>lhs;cbv⟩
def aGv:TG 66:=⟨_,by conv=>lhs;cbv⟩
def aIT:TG 69:=⟨_,by conv=>lhs;cbv⟩
def W6:TG 73:=⟨_,by conv=>lhs;cbv⟩
def aHC:TG 75:=⟨_,by conv=>lhs;cbv⟩
def aIm:TG 79:=⟨_,by conv=>lhs;cbv⟩
def aG2:TG 81:=⟨_,by conv=>lhs;cbv⟩
def aIv:Ty:=⟨(.array 4 81),32,32,[(.int .u8 0),(.int .u8 0),(.int .i8 0),(.bool false),(.int .u8 0),(.int .u8 0),(.int .u8 0),(.int .u8 0),(.int .u8 0),(.int .u8 0),(.int .i8 0),(.bool false),(.int .u8 0),(.int .u8 0),(.int .u8 0),(.int .u8 0),(.int .u8 0),(.int .u8 0),(.int .i8 0),(.bool false),(.int .u8 0),(.int .u8 0),(.int .u8 0),(.int .u8 0),(.int .u8 0),(.int .u8 0),(.int .i8 0),(.bool false)]++(List.replicate 4 ([(.int .u8 0)]:List Value)).flatten,true⟩
def aGL:Ty:=⟨(.array 4 82),128,128,[(.int .u8 0),(.int .u8 0),(.int .i8 0),(.bool false),(.int .u8 0),(.int .u8 0),(.int .u8 0),(.int .u8 0),(.int .u8 0),(.int .u8 0),(.int .i8 0),(.bool false),(.int .u8 0),(.int .u8 0),(.int .u8 0),(.int .u8 0),(.int .u8 0),(.int .u8 0),(.int .i8 0),(.bool false),(.int .u8 0),(.int .u8 0),(.int .u8 0),(.int .u8 0),(.int .u8 0),(.int .u8 0),(.int .i8 0),(.bool false),(.int .u8 0),(.int .u8 0),(.int .u8 0),(.int .u8 0),(.int .u8 0),(.int .u8 0),(.int .i8 0),(.bool false),(.int .u8 0),(.int .u8 0),(.int .u8 0),(.int .u8 0),(.int .u8 0),(.int .u8 0),(.int .i8 0),(.bool false),(.int .u8 0),(.int .u8 0),(.int .u8 0),(.int .u8 0),(.int .u8 0),(.int .u8 0),(.int .i8 0),(.bool false),(.int .u8 0),(.int .u8 0),(.int .u8 0),(.int .u8 0),(.int .u8 0),(.int .u8 0),(.int .i8 0),(.bool false),(.int .u8 0),(.int .u8 0),(.int .u8 0),(.int .u8 0),(.int .u8 0),(.int .u8 0),(.int .i8 0),(.bool false),(.int .u8 0),(.int .u8 0),(.int .u8 0),(.int .u8 0),(.int .u8 0),(.int .u8 0),(.int .i8 0),(.bool false),(.int .u8 0),(.int .u8 0),(.int .u8 0),(.int .u8 0),(.int .u8 0),(.int .u8 0),(.int .i8 0),(.bool false),(.int .u8 0),(.int .u8 0),(.int .u8 0),(.int .u8 0),(.int .u8 0),(.int .u8 0),(.int .i8 0),(.bool false),(.int .u8 0),(.int .u8 0),(.int .u8 0),(.int .u8 0),(.int .u8 0),(.int .u8 0),(.int .i8 0),(.bool false),(.int .u8 0),(.int .u8 0),(.int .u8 0),(.int .u8 0),(.int .u8 0),(.int .u8 0),(.int .i8 0),(.bool false),(.int .u8 0),(.int .u8 0),(.int .u8 0),(.int .u8 0),(.int .u8 0),(.int .u8 0),(.int .i8 0),(.bool false),(.int .u8 0),(.int .u8 0),(.int .u8 0),(.int .u8 0),(.int .u8 0),(.int .u8 0),(.int .i8 0),(.bool false)]++(List.replicate 4 ([(.int .u8 0)]:List Value)).flatten,true⟩
def aHd:TG 85:=⟨_,by conv=>lhs;cbv⟩
def aDi:TG 86:=⟨_,by conv=>lhs;cbv⟩
def aDl:TG 88:=⟨_,by conv=>lhs;cbv⟩
def aHO:Ty:=⟨(.struct [(83,0,true),(86,128,true),(88,156,true)]),160,232,[(.int .u8 0),(.int .u8 0),(.int .i8 0),(.bool false),(.int .u8 0),(.int .u8 0),(.int .u8 0),(.int .u8 0),(.int .u8 0),(.int .u8 0),(.int .i8 0),(.bool false),(.int .u8 0),(.int .u8 0),(.int .u8 0),(.int .u8 0),(.int .u8 0),(.int .u8 0),(.int .i8 0),(.bool false),(.int .u8 0),(.int .u8 0),(.int .u8 0),(.int .u8 0),(.int .u8 0),(.int .u8 0),(.int .i8 0),(.bool false),(.int .u8 0),(.int .u8 0),(.int .u8 0),(.int .u8 0),(.int .u8 0),(.int .u8 0),(.int .i8 0),(.bool false),(.int .u8 0),(.int .u8 0),(.int .u8 0),(.int .u8 0),(.int .u8 0),(.int .u8 0),(.int .i8 0),(.bool false),(.int .u8 0),(.int .u8 0),(.int .u8 0),(.int .u8 0),(.int .u8 0),(.int .u8 0),(.int .i8 0),(.bool false),(.int .u8 0),(.int .u8 0),(.int .u8 0),(.int .u8 0),(.int .u8 0),(.int .u8 0),(.int .i8 0),(.bool false),(.int .u8 0),(.int .u8 0),(.int .u8 0),(.int .u8 0),(.int .u8 0),(.int .u8 0),(.int .i8 0),(.bool false),(.int .u8 0),(.int .u8 0),(.int .u8 0),(.int .u8 0),(.int .u8 0),(.int .u8 0),(.int .i8 0),(.bool false),(.int .u8 0),(.int .u8 0),(.int .u8 0),(.int .u8 0),(.int .u8 0),(.int .u8 0),(.int .i8 0),(.bool false),(.int .u8 0),(.int .u8 0),(.int .u8 0),(.int .u8 0),(.int .u8 0),(.int .u8 0),(.int .i8 0),(.bool false),(.int .u8 0),(.int .u8 0),(.int .u8 0),(.int .u8 0),(.int .u8 0),(.int .u8 0),(.int .i8 0),(.bool false),(.int .u8 0),(.int .u8 0),(.int .u8 0),(.int .u8 0),(.int .u8 0),(.int .u8 0),(.int .i8 0),(.bool false),(.int .u8 0),(.int .u8 0),(.int .u8 0),(.int .u8 0),(.int .u8 0),(.int .u8 0),(.int .i8 0),(.bool false),(.int .u8 0),(.int .u8 0),(.int .u8 0),(.int .u8 0),(.int .u8 0),(.int .u8 0),(.int .i8 0),(.bool false),(.int .u8 0),(.int .u8 0),(.int .u8 0),(.int .u8 0),(.int .u8 0),(.int .i64 0),(.int .u8 0),(.int .u8 0),(.int .u8 0),(.int .u8 0),(.int .u8 0),(.int .u8 0),(.int .i64 0),(.int .u8 0),(.int .u8 0),(.int .u8 0),(.int .u8 0),(.int .u8 0),(.int .u8 0),(.int .i64 0),(.int .u8 0),(.int .u8 0),(.int .u8 0),(.int .u8 0),(.int .u8 0),(.int .u8 0),(.int .i64 0)]++(List.replicate 9 ([(.int .u8 0)]:List Value)).flatten,true⟩
def aH4:TG 92:=⟨_,by conv=>lhs;cbv⟩
def NO:TG 93:=⟨_,by conv=>lhs;cbv⟩
def aEh:TG 95:=⟨_,by conv=>lhs;cbv⟩
def RF:TG 104:=⟨_,by conv=>lhs;cbv⟩
def TJ:TG 107:=⟨_,by conv=>lhs;cbv⟩
def SF:TG 109:=⟨_,by conv=>lhs;cbv⟩
def S9:TG 111:=⟨_,by conv=>lhs;cbv⟩
def S8:TG 122:=⟨_,by conv=>lhs;cbv⟩
def P1:TG 128:=⟨_,by conv=>lhs;cbv⟩
def SO:TG 130:=⟨_,by conv=>lhs;cbv⟩
def QT:TG 132:=⟨_,by conv=>lhs;cbv⟩
def TS:TG 136:=⟨_,by conv=>lhs;cbv⟩
def TI:TG 149:=⟨_,by conv=>lhs;cbv⟩
def SX:Ty:=⟨(.struct [(149,0,true),(42,1,true)]),566,776,[(.int .u8 0),(.string ⟨#[]⟩)]++(List.replicate 188 ([(.int .u8 0),(.int .u8 0),(.int .u16 0)]:List Value)).flatten,true⟩
def R3:TG 157:=⟨_,by conv=>lhs;cbv⟩
def TD:TG 159:=⟨_,by conv=>lhs;cbv⟩
def QX:TG 171:=⟨_,by conv=>lhs;cbv⟩
def DN:TG 178:=⟨_,by conv=>lhs;cbv⟩
def T0:TG 181:=⟨_,by conv=>lhs;cbv⟩
def QA:TG 182:=⟨_,by conv=>lhs;cbv⟩
def RO:TG 186:=⟨_,by conv=>lhs;cbv⟩
def TQ:TG 187:=⟨_,by conv=>lhs;cbv⟩
def O7:TG 202:=⟨_,by conv=>lhs;cbv⟩
def QL:TG 203:=⟨_,by conv=>lhs;cbv⟩
def TF:TG 210:=⟨_,by conv=>lhs;cbv⟩
def RZ:TG 213:=⟨_,by conv=>lhs;cbv⟩
def RI:TG 216:=⟨_,by conv=>lhs;cbv⟩
def ST:TG 218:=⟨_,by conv=>lhs;cbv⟩
def Q5:TG 220:=⟨_,by conv=>lhs;cbv⟩
def SH:TG 224:=⟨_,by conv=>lhs;cbv⟩
def RR:TG 226:=⟨_,by conv=>lhs;cbv⟩
def SL:TG 228:=⟨_,by conv=>lhs;cbv⟩
def Q9:TG 230:=⟨_,by conv=>lhs;cbv⟩
def P7:TG 233:=⟨_,by conv=>lhs;cbv⟩
def PR:TG 267:=⟨_,by conv=>lhs;cbv⟩
def QN:TG 268:=⟨_,by conv=>lhs;cbv⟩
def PQ:TG 270:=⟨_,by conv=>lhs;cbv⟩
def RQ:TG 272:=⟨_,by conv=>lhs;cbv⟩
def P4:TG 277:=⟨_,by conv=>lhs;cbv⟩
def QO:TG 278:=⟨_,by conv=>lhs;cbv⟩
def RJ:TG 292:=⟨_,by conv=>lhs;cbv⟩
def O1:TG 293:=⟨_,by conv=>lhs;cbv⟩
def TV:TG 302:=⟨_,by conv=>lhs;cbv⟩
def QQ:TG 303:=⟨_,by conv=>lhs;cbv⟩
def PG:TG 305:=⟨_,by conv=>lhs;cbv⟩
def RB:TG 306:=⟨_,by conv=>lhs;cbv⟩
def RC:TG 316:=⟨_,by conv=>lhs;cbv⟩
def O3:TG 323:=⟨_,by conv=>lhs;cbv⟩
def QZ:TG 329:=⟨_,by conv=>lhs;cbv⟩
def Q2:TG 331:=⟨_,by conv=>lhs;cbv⟩
def QC:TG 337:=⟨_,by conv=>lhs;cbv⟩
def SE:TG 340:=⟨_,by conv=>lhs;cbv⟩
def TB:TG 342:=⟨_,by conv=>lhs;cbv⟩
def UE:TG 344:=⟨_,by conv=>lhs;cbv⟩
def R4:TG 347:=⟨_,by conv=>lhs;cbv⟩
def TK:TG 349:=⟨_,by conv=>lhs;cbv⟩
def SP:TG 352:=⟨_,by conv=>lhs;cbv⟩
def PZ:TG 353:=⟨_,by conv=>lhs;cbv⟩
def TO:TG 356:=⟨_,by conv=>lhs;cbv⟩
def R6:TG 357:=⟨_,by conv=>lhs;cbv⟩
def RG:TG 358:=⟨_,by conv=>lhs;cbv⟩
def SU:TG 360:=⟨_,by conv=>lhs;cbv⟩
def R5:TG 362:=⟨_,by conv=>lhs;cbv⟩
def RU:TG 364:=⟨_,by conv=>lhs;cbv⟩
def P5:TG 368:=⟨_,by conv=>lhs;cbv⟩
def T3:TG 369:=⟨_,by conv=>lhs;cbv⟩
def R7:TG 371:=⟨_,by conv=>lhs;cbv⟩
def PY:TG 374:=⟨_,by conv=>lhs;cbv⟩
def RK:TG 375:=⟨_,by conv=>lhs;cbv⟩
def TA:TG 376:=⟨_,by conv=>lhs;cbv⟩
def PJ:TG 377:=⟨_,by conv=>lhs;cbv⟩
def Q6:Ty:=⟨(.array 7 377),105,1680,(List.replicate 105 ([(.string ⟨#[]⟩)]:List Value)).flatten,true⟩
def PE:TG 383:=⟨_,by conv=>lhs;cbv⟩
def SQ:TG 385:=⟨_,by conv=>lhs;cbv⟩
def Q7:TG 390:=⟨_,by conv=>lhs;cbv⟩
def Q4:TG 394:=⟨_,by conv=>lhs;cbv⟩
def TZ:TG 403:=⟨_,by conv=>lhs;cbv⟩
def RH:TG 406:=⟨_,by conv=>lhs;cbv⟩
def RX:TG 411:=⟨_,by conv=>lhs;cbv⟩
def SA:TG 417:=⟨_,by conv=>lhs;cbv⟩
def SD:TG 419:=⟨_,by conv=>lhs;cbv⟩
def RV:TG 422:=⟨_,by conv=>lhs;cbv⟩
def S6:TG 435:=⟨_,by conv=>lhs;cbv⟩
def SW:Ty:=⟨(.array 64 5),64,64,(List.replicate 64 ([(.int .u8 0)]:List Value)).flatten,true⟩
def aM:List Nat:=[24,37,38,39,40,44,47,56,64,67,68,69,70,71,72,75,76,78,80,82,83,84,95,96,97,98,99,101,105,106,108,110,113,115,119,121,122,126,128,131,134,135,142,143,144,145,146,147,148,149,150,151,153,154,157,158,159,160,161,163,164,165,167,168,170,171,173,177,178,179,180,181,182,183,185,189,191,192,193,194,195,197,203,204,206,211,213,217,218,220,226,227,230,231,232,233,234,235,236,237,238,239,240,241,242,243,244,247,251,256,257,258,259,260,261,262,264,265,266,268,271,272,273,275,276,277,278,279,280,281,282,283,284,285,289,290,291,300,301,303,305,306,314,315,316,317,320,324,325,326,327]
def kpL(a b:List Nat)(l:List (List Nat))(i:Nat):List Nat:=bif Nat.beq i 1000000 then a else bif Nat.beq i 2000000 then b else l.getD i []
def aCy:Operand->Nat|.tmp t=>1<<<t|_=>0
def RP(l:List (Nat×Nat))(i:Nat):Nat:=match l with|[]=>0|p::r=>bif Nat.beq p.1 i then p.2 else RP r i
def aTH(o:Oper)(l:Nat):Nat:=match o.dst with|some d=>bif Nat.testBit l d then l-1<<<d else l|none=>l
def aKe(ops:List Oper)(l:Nat):List Oper->Nat|[]=>l|o::r=>let l:=aKe ops l r;let l:=o.op.operands.toList.foldl (fun l x=>l|||aCy x) (aTH o l);match o.guard with|some (g,_)=>(match(ops[g]?).bind (·.dst)with|some t=>l|||1<<<t|none=>l)|none=>l
def live:Code->List (Nat×Nat)->Nat->Nat->List (Nat×Nat)->Nat×List (Nat×Nat)|.exit i,xs,_,_,c=>(RP xs i,c)|.ret,_,r,_,c=>(r,c)|.seq a b,xs,r,out,c=>let p:=live b xs r out c;live a xs r p.1 p.2|.cond x a b,xs,r,out,c=>let p:=live a xs r out c;let q:=live b xs r out p.2;(aCy x|||(p.1|||q.1),q.2)|.block i a,xs,r,out,c=>live a ((i,out)::xs) r out c|.loop a,xs,r,_,c=>let p:=live a xs r 0 c;live a xs r p.1 p.2|.region id ops _,_,_,out,c=>let l:=aKe ops.toList out ops.toList;(l,(id,l)::c)|.rangeFunc g ps a b,xs,r,out,c=>let p:=live b [] 0 0 c;let q:=live a [] 0 p.1 p.2;let s:=ps.toList.foldl (fun l t=>bif Nat.testBit l t then l-1<<<t else l) q.1;(aCy g|||(s|||xs.foldl (fun l e=>l|||e.2) (out|||r)),(2000000,RP q.2 2000000|||s)::q.2)|_,_,_,out,c=>(out,c)
def L4(f:Func):Code:=f.body.getD .skip
def aUG(f:Func):List (Nat×Nat):=let r:=f.results.toList.foldl (fun l x=>match x with|.tmp t=>l|||1<<<t|.cell p _=>l|||1<<<p) 0;(live (L4 f) [] r r []).2
def XV(n:Nat):Nat->Nat->List Nat|0,_=>[]|f+1,k=>bif Nat.testBit n k then k::XV n f (k+1)else XV n f (k+1)
def kq(f:Func):Nat->List Nat:=let l:=aUG f;fun i=>bif Nat.beq i 1000000 then aM else XV (RP l i) f.ntmps 0
structure GF(nt:Nat)(res:List ResultVar)(md:E6)(F:Func)(kp:Nat→List Nat:=kq F) where
 m:M
 h:cmp nt kp (L4 F)=m
section
variable{nt:Nat}{res:List ResultVar}{md:E6}{F:Func}{kp:Nat->List Nat}
abbrev GF.fn(g:GF nt res md F kp):MFn:=⟨nt,res,g.m,md⟩
theorem fk{f:FuncId}(g:GF nt res md F kp)(h:Tryz.prog.funcs[f]?=some F)(h1:F.body=some (L4 F):=by rfl)(h2:F.ntmps=nt:=by rfl)(h3:F.results.toList=res:=by kernel_rfl)(h4:(F.name=="runtime.NumGoroutine")=false:=by kernel_rfl):aSC Tryz.prog f g.fn:=⟨F,_,kp,h,h1,h2,h3,h4,g.h⟩
end
attribute [go_sem] GF.fn
structure Got(a:M) where
 m:M
 h:a=m
abbrev UL(a b:M):Prop:=∀{C:Ctx}{k:List It}{st:St}{Q:Ex->St->Prop},aT C (.code a::k) st Q↔aT C (.code b::k) st Q
theorem ul{a:M}{C:Ctx}{k:List It}{st:St}{Q:Ex->St->Prop}:aT C (.code a::k) st Q↔aT C (.code a::k) st Q:=Iff.rfl
def pD:M->List M|.seq a b=>pD a++pD b|.cond _ a b=>pD a++pD b|.block _ a=>pD a|.loop a=>a::pD a|.rf _ _ _ _ a b=>(a::pD a)++(b::pD b)|_=>[]
abbrev lpM(a:M)(k:Nat):M:=(pD a).getD k .bad
