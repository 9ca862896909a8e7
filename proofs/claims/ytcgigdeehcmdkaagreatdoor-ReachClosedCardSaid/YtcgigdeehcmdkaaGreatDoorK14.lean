/- The evaluator's context: types and bodies, and that they are the program's. Printed by wip/ev/gen/ctx.py. -/
import Derived.Test.YtcgigdeehcmdkaaGreatDoorK10
set_option linter.all false
namespace Go.Proofs.YtcgigdeehcmdkaaGreatDoor.Ev
open Go Go.RowKit
set_option maxRecDepth 100000
def g7:GF 109 [.tmp 0] .shut Tryz.f7:=⟨_,by conv=>lhs;cbv⟩
def g9:GF 70 [.cell 6 51,.tmp 7] .shut Tryz.f9 (kpL aL [] [[0,1,2],[1,2,3,6],[1,2,3,6,8],[1,3,6],[1,3,6,8],[6,9,10],[6,10],[6,9],[6,9,11],[6,9,11,12],[6,9,11,12,13],[6,9,11,12,13],[6,9,11,13],[6,9,10,11,12,13],[6,10],[6,9,11],[6,9,11],[6,11]]):=⟨_,by conv=>lhs;reduce⟩
def g10:GF 84 [.cell 2 67,.tmp 3] .norm Tryz.f10 (kpL aL [] [[0],[1,2],[2],[1,2],[1,2,4],[1,2,4,15,16],[1,2,4,15,16],[1,2,4,15,16],[1,2,4,15,16],[1,2,4],[1,2,4,39,40],[1,2,4,39,40],[1,2,4,5,39,40],[1,2,4,5,6,39,40],[1,2,4,5,6,39,40,46,47,48],[1,2,4,5,6,39,40,46,47,48],[1,2,4,5,6,8,39,40,46,47,48],[1,2,4,5,6,8,39,40,46,47,48],[1,2,4,5,6,39,40,46,47,48],[1,2,4,5,6,39,40],[1,2,4,39,40],[2,4]]):=⟨_,by conv=>lhs;reduce⟩
def JC:Got (lpM g10.m 1):=⟨_,by conv=>lhs;cbv⟩
def XP:M:=JC.m
theorem aLA:UL XP JC.m:=ul
def KM:Got (lpM g10.m 2):=⟨_,by conv=>lhs;cbv⟩
def aA4:M:=KM.m
theorem aMw:UL aA4 KM.m:=ul
def g14:GF 53 [.cell 6 67,.tmp 7,.tmp 8] .norm Tryz.f14 (kpL aL [] [[0,1,2],[3,4,5,6],[6],[3,4,5,6],[6],[3,4,5,6],[5,6,9],[6,9,10,11],[6,11],[6,9,10],[6,9],[6],[6,9]]):=⟨_,by conv=>lhs;reduce⟩
def g25:GF 23 [.cell 6 44] .pass Tryz.f25:=⟨_,by conv=>lhs;cbv⟩
def g27:GF 26 [.tmp 4] .shut Tryz.f27 (kpL aL [] [[0,1],[0,1],[],[0,1],[0,1,5],[0,1,5],[0,1,5],[],[]]):=⟨_,by conv=>lhs;reduce⟩
def g32:GF 8 [.tmp 2] .pass Tryz.f32:=⟨_,by conv=>lhs;cbv⟩
def g35:GF 2 [.cell 0 120] .norm Tryz.f35:=⟨_,by conv=>lhs;cbv⟩
def g40:GF 12 [.cell 6 63] .shut Tryz.f40 (kpL aL [] [[0,1,2],[0,1,5,6]]):=⟨_,by conv=>lhs;reduce⟩
def g41:GF 12 [.tmp 4] .shut Tryz.f41:=⟨_,by conv=>lhs;cbv⟩
def g45:GF 64 [.tmp 4] .shut Tryz.f45 (kpL aL [] [[0,1],[2,3],[],[2,3],[2,3,24,25,26],[2,3,24,25,26],[2,3,6,24,25,26],[],[2,3,24,25,26],[2,3],[2,3,37,38,39],[2,3,37,38,39],[2,3,8,37,38,39],[],[2,3,37,38,39],[2,3],[2,3,51,52],[2,3,51,52],[2,3,9,51,52],[],[2,3,51,52],[]]):=⟨_,by conv=>lhs;reduce⟩
def g53:GF 45 [.cell 4 48] .pass Tryz.f53 (kpL aL [2,3,4,5] [[0,1],[2,3,4],[2,3,4,5],[2,3,4,5],[2,3,4,5],[2,3,4,5,22,23],[2,3,4,5,6,23],[2,3,4,5,6,7],[2,3,4,5,6,7],[3,4,5,8,10],[4,10],[3,5,8],[2,3,4,5],[2,3,4,44],[4]]):=⟨_,by conv=>lhs;reduce⟩
def LH:Got (lpM g53.m 0):=⟨_,by conv=>lhs;cbv⟩
def aAP:M:=LH.m
theorem aKI:UL aAP LH.m:=ul
def I9:Got (lpM g53.m 1):=⟨_,by conv=>lhs;cbv⟩
def aAz:M:=I9.m
theorem aQG:UL aAz I9.m:=ul
def JG:Got (lpM g53.m 2):=⟨_,by conv=>lhs;cbv⟩
def X7:M:=JG.m
theorem aRl:UL X7 JG.m:=ul
def g58:GF 35 [.tmp 4] .pass Tryz.f58 (kpL aL [] [[0,1],[0,1]]):=⟨_,by conv=>lhs;reduce⟩
def g73:GF 30 [.tmp 2] .shut Tryz.f73:=⟨_,by conv=>lhs;cbv⟩
def g74:GF 18 [.cell 2 4] .shut Tryz.f74 (kpL aL [1,2] [[0],[1,2],[2],[1,2],[1,2,9],[1,2,3],[2],[2]]):=⟨_,by conv=>lhs;reduce⟩
def JF:Got (lpM g74.m 0):=⟨_,by conv=>lhs;cbv⟩
def jQ:M:=JF.m
theorem aPb:UL jQ JF.m:=ul
def JZ:Got (lpM g74.m 1):=⟨_,by conv=>lhs;cbv⟩
def jL:M:=JZ.m
theorem aQa:UL jL JZ.m:=ul
def g79:GF 11 [.tmp 4] .shut Tryz.f79:=⟨_,by conv=>lhs;cbv⟩
def g80:GF 16 [.cell 4 59] .shut Tryz.f80:=⟨_,by conv=>lhs;cbv⟩
def g84:GF 76 [.tmp 4,.tmp 5] .pass Tryz.f84 (kpL aL [] [[0,1],[0,3],[0,3,6],[],[0,3,6],[0,3,6,8],[],[0,3,6],[0,6,9,10,11]]):=⟨_,by conv=>lhs;reduce⟩
def g85:GF 144 [.tmp 4,.tmp 5] .pass Tryz.f85 (kpL aL [] [[0,1],[2,3],[2,6],[2,6,7],[2,6,7,8],[],[2,6,7,8],[],[2,6,7,8],[2,6,9,11],[11],[2,6,9],[2,6,9],[2,6,9,12],[2,9,12,13,14,15,16],[2,9,16,17],[2,6,9],[2,6,9],[2,6,9,18,19,20],[]]):=⟨_,by conv=>lhs;reduce⟩
def g92:GF 42 [.tmp 4] .shut Tryz.f92:=⟨_,by conv=>lhs;cbv⟩
def g99:GF 23 [.tmp 4] .pass Tryz.f99:=⟨_,by conv=>lhs;cbv⟩
def aRj:GF 33 [.tmp 4] .shut Tryz.f101 (kpL aL [3,5] [[0,1],[2,3,4],[],[2,3,4],[2,3,4,5],[3,5,15,16],[3,5,6,16],[3,5,6,7],[5,8],[5,8],[5],[5]]):=⟨_,by conv=>lhs;reduce⟩
def aGL:GF 6 [.tmp 2] .shut Tryz.f102:=⟨_,by conv=>lhs;cbv⟩
def KI:GF 8 [.tmp 2] .norm Tryz.f104:=⟨_,by conv=>lhs;cbv⟩
def aDa:GF 8 [.tmp 2] .pass Tryz.f105:=⟨_,by conv=>lhs;cbv⟩
def aFJ:GF 36 [.tmp 2] .pass Tryz.f107:=⟨_,by conv=>lhs;cbv⟩
def aFi:GF 15 [.tmp 4] .shut Tryz.f113 (kpL aL [] [[0,1],[2,3],[5,6]]):=⟨_,by conv=>lhs;reduce⟩
def aEX:GF 16 [] .pass Tryz.f124:=⟨_,by conv=>lhs;cbv⟩
def aIe:GF 7 [.tmp 2] .shut Tryz.f126:=⟨_,by conv=>lhs;cbv⟩
def Z1:GF 32 [.tmp 2] .shut Tryz.f147:=⟨_,by conv=>lhs;cbv⟩
def B5:Got (lpM Z1.m 0):=⟨_,by conv=>lhs;cbv⟩
def C2:M:=B5.m
theorem aCF:UL C2 B5.m:=ul
def aD9:GF 1 [.tmp 0] .pass Tryz.f148:=⟨_,by conv=>lhs;cbv⟩
def aIl:GF 42 [.tmp 4] .shut Tryz.f149:=⟨_,by conv=>lhs;cbv⟩
def aDy:GF 8 [.cell 4 128] .shut Tryz.f151:=⟨_,by conv=>lhs;cbv⟩
def KH:GF 123 [.cell 8 133,.tmp 9,.tmp 10,.tmp 11] .shut Tryz.f160:=⟨_,by conv=>lhs;cbv⟩
def aFF:GF 52 [.cell 10 133,.tmp 11,.tmp 12] .shut Tryz.f162:=⟨_,by conv=>lhs;cbv⟩
def V2:GF 19 [.tmp 4] .pass Tryz.f163:=⟨_,by conv=>lhs;cbv⟩
def D9:Got (lpM V2.m 0):=⟨_,by conv=>lhs;cbv⟩
def QX:M:=D9.m
theorem aGv:UL QX D9.m:=ul
def aCJ:GF 10 [] .pass Tryz.f168:=⟨_,by conv=>lhs;cbv⟩
def aDH:GF 25 [.tmp 4] .shut Tryz.f169:=⟨_,by conv=>lhs;cbv⟩
def aC9:GF 86 [.cell 10 63,.tmp 11,.tmp 12] .shut Tryz.f170 (kpL aL [] [[0,1,2,3,4],[2,5,6,8,9,10],[8,10],[2,5,6,8,9,10],[2,5,6,8,9,10,30],[2,5,6,8,9,10,30],[8,9,10],[2,5,6,8,9,10],[2,5,6,8,9,10,13,14],[8,10],[2,5,6,8,9,10,13],[8,10],[2,5,6,8,9,10,13],[8,10],[2,5,6,8,9,10,13],[2,6,8,9,10,15],[2,6,8,9,10,15,16],[8,10,16],[2,6,8,9,10,15],[10,15,17],[10,15,17],[10,17]]):=⟨_,by conv=>lhs;reduce⟩
def aEE:GF 9 [.tmp 4] .norm Tryz.f172:=⟨_,by conv=>lhs;cbv⟩
def aIn:GF 6 [.tmp 4] .pass Tryz.f173:=⟨_,by conv=>lhs;cbv⟩
def aAM:GF 19 [.tmp 4] .shut Tryz.f174 (kpL aL [] [[0,1],[0,3],[0,3,7,8],[0,3,7,8],[0,3,5,7,8],[5],[0,3,7,8],[]]):=⟨_,by conv=>lhs;reduce⟩
def CK:Got (lpM aAM.m 0):=⟨_,by conv=>lhs;cbv⟩
def Q5:M:=CK.m
theorem aE8:UL Q5 CK.m:=ul
def aOe:GF 46 [.tmp 2] .shut Tryz.f178:=⟨_,by conv=>lhs;cbv⟩
def aRQ:GF 61 [.tmp 4] .shut Tryz.f184 (kpL aL [] [[0,1],[0,3],[0,3,5],[0,3,5,20,21,22],[0,3,5,20,21,22],[0,3,5,7,20,21,22],[0,3,5,7,20,21,22],[0,3,5,7,20,21,22],[0,3,5,20,21,22],[0,3,5]]):=⟨_,by conv=>lhs;reduce⟩
def aBh:GF 26 [.tmp 4,.tmp 5] .shut Tryz.f191:=⟨_,by conv=>lhs;cbv⟩
def DK:Got (lpM aBh.m 0):=⟨_,by conv=>lhs;cbv⟩
def RZ:M:=DK.m
theorem aF7:UL RZ DK.m:=ul
def aNr:GF 4 [.tmp 2] .pass Tryz.f194:=⟨_,by conv=>lhs;cbv⟩
def L1:GF 63 [] .pass Tryz.f200:=⟨_,by conv=>lhs;cbv⟩
def BV:Got (lpM L1.m 0):=⟨_,by conv=>lhs;cbv⟩
def RQ:M:=BV.m
theorem aCX:UL RQ BV.m:=ul
def BC:Got (lpM L1.m 1):=⟨_,by conv=>lhs;cbv⟩
def PY:M:=BC.m
theorem aFL:UL PY BC.m:=ul
def DY:Got (lpM L1.m 2):=⟨_,by conv=>lhs;cbv⟩
def R5:M:=DY.m
theorem aD8:UL R5 DY.m:=ul
def aHm:GF 16 [] .pass Tryz.f208:=⟨_,by conv=>lhs;cbv⟩
def aCN:GF 34 [] .pass Tryz.f209 (kpL aL [] [[0,1],[0,1]]):=⟨_,by conv=>lhs;reduce⟩
def aR4:GF 17 [] .pass Tryz.f214:=⟨_,by conv=>lhs;cbv⟩
def aE3:GF 21 [.tmp 2] .pass Tryz.f224:=⟨_,by conv=>lhs;cbv⟩
def aEm:GF 10 [.tmp 6] .shut Tryz.f231:=⟨_,by conv=>lhs;cbv⟩
def aPG:GF 43 [.cell 4 128] .shut Tryz.f235:=⟨_,by conv=>lhs;cbv⟩
def aCK:GF 31 [.tmp 2] .pass Tryz.f237 (kpL aL [] [[0],[0],[]]):=⟨_,by conv=>lhs;reduce⟩
def aDi:GF 36 [.tmp 2] .pass Tryz.f238 (kpL aL [] [[0],[0],[0],[]]):=⟨_,by conv=>lhs;reduce⟩
def aFz:GF 30 [.tmp 2] .pass Tryz.f240 (kpL aL [] [[0],[0],[]]):=⟨_,by conv=>lhs;reduce⟩
def aFC:GF 27 [.cell 4 133,.tmp 5] .shut Tryz.f243:=⟨_,by conv=>lhs;cbv⟩
def aGD:GF 20 [] .pass Tryz.f244 (kpL aL [] [[0,1,2,3]]):=⟨_,by conv=>lhs;reduce⟩
def aDj:GF 14 [.tmp 3] .pass Tryz.f251:=⟨_,by conv=>lhs;cbv⟩
def aBk:GF 71 [.cell 4 133,.tmp 5,.tmp 6,.tmp 7] .pass Tryz.f253 (kpL aL [] [[0,1],[0,1,4],[0,1,4,8],[1,4,8,9,10],[4,8,10],[1,4,8,9],[1,4,8,9,36,37],[1,4,8,9,36,37],[1,4,8,9,11,12,36,37],[1,4,8,9,12,36,37],[1,4,8,9,36,37],[1,4,8,9],[1,4,8,13],[4,8,13],[1,4]]):=⟨_,by conv=>lhs;reduce⟩
def B0:Got (lpM aBk.m 0):=⟨_,by conv=>lhs;cbv⟩
def iB:M:=B0.m
theorem aEH:UL iB B0.m:=ul
def aGw:GF 71 [.cell 6 120] .norm Tryz.f256 (kpL aL [] [[0,1,2],[0,4,5,6],[0,5,6,7],[6,7],[6,7,8],[6,7,8],[6,7,8],[6,7],[0,5,6,7],[0,5,6,7],[0,5,6,7],[5,6,7],[5,6,7],[6,7],[6,7],[6,7]]):=⟨_,by conv=>lhs;reduce⟩
def aDd:GF 8 [.tmp 6] .pass Tryz.f257:=⟨_,by conv=>lhs;cbv⟩
def aFR:GF 22 [.tmp 4,.tmp 5] .shut Tryz.f261:=⟨_,by conv=>lhs;cbv⟩
def aEz:GF 35 [.tmp 2] .shut Tryz.f270:=⟨_,by conv=>lhs;cbv⟩
def aF0:GF 4 [.tmp 2] .pass Tryz.f271:=⟨_,by conv=>lhs;cbv⟩
def aPo:GF 24 [.tmp 3] .shut Tryz.f273:=⟨_,by conv=>lhs;cbv⟩
def aLZ:GF 15 [.tmp 4] .shut Tryz.f276:=⟨_,by conv=>lhs;cbv⟩
def aLl:GF 19 [.tmp 2] .shut Tryz.f287:=⟨_,by conv=>lhs;cbv⟩
def VV:GF 27 [.cell 2 424,.cell 3 3,.cell 4 48] .shut Tryz.f291 (kpL aL [2,3,4] [[0],[0,2,3,4],[2,3,4],[0,2,3,4],[2,3,4,5],[2,3,4,15,16],[2,3,4,6,16],[2,3,4,6,7],[2,3,4,6,7],[2,6],[2,3,4]]):=⟨_,by conv=>lhs;reduce⟩
def D5:Got (lpM VV.m 0):=⟨_,by conv=>lhs;cbv⟩
def pW:M:=D5.m
theorem aIw:UL pW D5.m:=ul
def DG:Got (lpM VV.m 1):=⟨_,by conv=>lhs;cbv⟩
def pS:M:=DG.m
theorem aDr:UL pS DG.m:=ul
def aEa:GF 23 [.tmp 6] .shut Tryz.f298:=⟨_,by conv=>lhs;cbv⟩
def aC0:GF 17 [.tmp 4] .pass Tryz.f305:=⟨_,by conv=>lhs;cbv⟩
def aGz:GF 22 [] .pass Tryz.f310 (kpL aL [] [[0],[0]]):=⟨_,by conv=>lhs;reduce⟩
def aDg:GF 26 [] .pass Tryz.f311 (kpL aL [] [[0],[0]]):=⟨_,by conv=>lhs;reduce⟩
def aFH:GF 15 [] .pass Tryz.f312 (kpL aL [] [[0]]):=⟨_,by conv=>lhs;reduce⟩
def aCA:GF 20 [] .pass Tryz.f320:=⟨_,by conv=>lhs;cbv⟩
def aRR:GF 14 [.tmp 2] .shut Tryz.f325:=⟨_,by conv=>lhs;cbv⟩
def aOC:GF 53 [] .pass Tryz.f328 (kpL aL [] [[0,1,2,3],[0,1,2,3,8],[0,1,2,3,8],[0,1,2,3,8],[0,1,2,3,8,9],[0,1,2,3,8,9],[0,1,2,3,8,9]]):=⟨_,by conv=>lhs;reduce⟩
def aFw:GF 22 [.tmp 2] .shut Tryz.f333:=⟨_,by conv=>lhs;cbv⟩
def aC7:GF 26 [.tmp 1] .pass Tryz.f346 (kpL aL [] [[0],[0]]):=⟨_,by conv=>lhs;reduce⟩
def aMa:GF 7 [.cell 4 128] .shut Tryz.f349:=⟨_,by conv=>lhs;cbv⟩
def aHC:GF 8 [] .pass Tryz.f357:=⟨_,by conv=>lhs;cbv⟩
def aGs:GF 21 [] .pass Tryz.f360 (kpL aL [] [[0]]):=⟨_,by conv=>lhs;reduce⟩
def aEL:GF 11 [] .pass Tryz.f362:=⟨_,by conv=>lhs;cbv⟩
def XX:GF 29 [] .pass Tryz.f369 (kpL aL [] [[0,1],[1,4],[1,4,17],[1,4,17],[1,4,5,17],[1,4,5,17],[1,4,17]]):=⟨_,by conv=>lhs;reduce⟩
def DS:Got (lpM XX.m 0):=⟨_,by conv=>lhs;cbv⟩
def EK:M:=DS.m
theorem aFu:UL EK DS.m:=ul
def aGx:GF 6 [.cell 2 59] .shut Tryz.f372:=⟨_,by conv=>lhs;cbv⟩
def aAZ:GF 23 [] .pass Tryz.f376 (kpL aL [] [[0,1],[0,1,3,4],[0,1,3],[0,1,3],[0,1,3],[0,1,22]]):=⟨_,by conv=>lhs;reduce⟩
def EL:Got (lpM aAZ.m 0):=⟨_,by conv=>lhs;cbv⟩
def wF:M:=EL.m
theorem aHn:UL wF EL.m:=ul
def aMm:GF 22 [] .pass Tryz.f379 (kpL aL [] [[0,1,2],[0,1,2],[0,2]]):=⟨_,by conv=>lhs;reduce⟩
def aIu:GF 13 [.tmp 2] .pass Tryz.f381 (kpL aL [] [[0],[0]]):=⟨_,by conv=>lhs;reduce⟩
def aPe:GF 3 [.tmp 0] .shut Tryz.f386:=⟨_,by conv=>lhs;cbv⟩
def U2:GF 47 [.tmp 2,.tmp 3] .shut Tryz.f392:=⟨_,by conv=>lhs;cbv⟩
def ZG:GF 29 [.tmp 2] .pass Tryz.f398:=⟨_,by conv=>lhs;cbv⟩
def ER:Got (lpM ZG.m 0):=⟨_,by conv=>lhs;cbv⟩
def QG:M:=ER.m
theorem aGF:UL QG ER.m:=ul
