/- The evaluator's context: types and bodies, and that they are the program's. Printed by wip/ev/gen/ctx.py. -/
import Derived.Test.YtcgigdeehcmdkaaGreatDoorL06
set_option linter.all false
namespace Go.Proofs.YtcgigdeehcmdkaaGreatDoor.Ev
open Go Go.RowKit
set_option maxRecDepth 100000
def g10:GF 84 [.cell 2 67,.tmp 3] .norm Tryz.f10 (kpL aL [] [[0],[1,2],[2],[1,2],[1,2,4],[1,2,4,15,16],[1,2,4,15,16],[1,2,4,15,16],[1,2,4,15,16],[1,2,4],[1,2,4,39,40],[1,2,4,39,40],[1,2,4,5,39,40],[1,2,4,5,6,39,40],[1,2,4,5,6,39,40,46,47,48],[1,2,4,5,6,39,40,46,47,48],[1,2,4,5,6,8,39,40,46,47,48],[1,2,4,5,6,8,39,40,46,47,48],[1,2,4,5,6,39,40,46,47,48],[1,2,4,5,6,39,40],[1,2,4,39,40],[2,4]]):=⟨_,by conv=>lhs;reduce⟩
def KW:Got (lpM g10.m 1):=⟨_,by conv=>lhs;cbv⟩
def aCn:M:=KW.m
theorem aUU:UL aCn KW.m:=ul
def K7:Got (lpM g10.m 2):=⟨_,by conv=>lhs;cbv⟩
def aDe:M:=K7.m
theorem aNt:UL aDe K7.m:=ul
def g12:GF 24 [.tmp 4] .shut Tryz.f12:=⟨_,by conv=>lhs;cbv⟩
def g13:GF 13 [.tmp 4] .shut Tryz.f13:=⟨_,by conv=>lhs;cbv⟩
def g21:GF 19 [.tmp 4] .shut Tryz.f21:=⟨_,by conv=>lhs;cbv⟩
def g23:GF 44 [.tmp 6] .shut Tryz.f23 (kpL aL [] [[0,1,2],[1,3,5],[],[1,3,5],[1,3,5,7],[1,3,5,7,8],[1,3,5,7,8],[1,3,5,7,8],[1,3,5,7,8,9,11],[],[]]):=⟨_,by conv=>lhs;reduce⟩
def L7:Got (lpM g23.m 0):=⟨_,by conv=>lhs;cbv⟩
def OH:M:=L7.m
theorem aUB:UL OH L7.m:=ul
def g32:GF 8 [.tmp 2] .pass Tryz.f32:=⟨_,by conv=>lhs;cbv⟩
def g34:GF 61 [.tmp 2] .shut Tryz.f34:=⟨_,by conv=>lhs;cbv⟩
def g35:GF 2 [.cell 0 120] .norm Tryz.f35:=⟨_,by conv=>lhs;cbv⟩
def g38:GF 25 [.tmp 4] .shut Tryz.f38 (kpL aL [7] [[0,1],[1,2,4],[1,4,5,6],[],[1,4,5],[1,4,5,7],[7,19],[7,8],[7]]):=⟨_,by conv=>lhs;reduce⟩
def g39:GF 23 [.cell 8 61] .shut Tryz.f39:=⟨_,by conv=>lhs;cbv⟩
def g42:GF 26 [.tmp 4] .pass Tryz.f42:=⟨_,by conv=>lhs;cbv⟩
def g43:GF 4 [.tmp 2] .pass Tryz.f43:=⟨_,by conv=>lhs;cbv⟩
def g48:GF 34 [.tmp 4] .shut Tryz.f48 (kpL aL [] [[0,1],[2,3],[],[2,3],[2,3,5],[2,3,5,16,17,18],[2,3,5,16,17,18],[2,3,5,6,7,16,17,18],[],[2,3,5,16,17,18],[3]]):=⟨_,by conv=>lhs;reduce⟩
def J4:Got (lpM g48.m 0):=⟨_,by conv=>lhs;cbv⟩
def aCg:M:=J4.m
theorem aOg:UL aCg J4.m:=ul
def g54:GF 4 [] .pass Tryz.f54:=⟨_,by conv=>lhs;cbv⟩
def g55:GF 17 [.tmp 4] .shut Tryz.f55:=⟨_,by conv=>lhs;cbv⟩
def g56:GF 69 [.tmp 2] .pass Tryz.f56:=⟨_,by conv=>lhs;cbv⟩
def OD:Got (lpM g56.m 0):=⟨_,by conv=>lhs;cbv⟩
def aBN:M:=OD.m
theorem aNE:UL aBN OD.m:=ul
def g72:GF 18 [.tmp 2] .shut Tryz.f72:=⟨_,by conv=>lhs;cbv⟩
def g75:GF 32 [.cell 4 133,.tmp 5] .shut Tryz.f75:=⟨_,by conv=>lhs;cbv⟩
def g77:GF 11 [.tmp 4] .shut Tryz.f77:=⟨_,by conv=>lhs;cbv⟩
def g81:GF 46 [.tmp 4,.tmp 5] .pass Tryz.f81 (kpL aL [] [[0,1],[2,3],[2,6],[2,6,7],[2,6,7,28],[2,6,7],[2,6,7,28],[2,6,7],[2,6,7],[]]):=⟨_,by conv=>lhs;reduce⟩
def g94:GF 80 [.tmp 2] .shut Tryz.f94 (kpL aL [] [[0],[0],[0,3],[0,3,12,13,14],[0,3,12,13,14],[0,3,5,12,13,14],[0,3,5,12,13,14],[0,3,12,13,14],[0,3],[],[0,3],[0,3],[0,3],[0,3],[3,6],[3,6],[3],[3,68,69,70],[3,68,69,70],[3,8,68,69,70],[],[3,68,69,70],[]]):=⟨_,by conv=>lhs;reduce⟩
def V5:GF 33 [.tmp 4] .shut Tryz.f101 (kpL aL [3,5] [[0,1],[2,3,4],[],[2,3,4],[2,3,4,5],[3,5,15,16],[3,5,6,16],[3,5,6,7],[5,8],[5,8],[5],[5]]):=⟨_,by conv=>lhs;reduce⟩
def FE:Got (lpM V5.m 0):=⟨_,by conv=>lhs;cbv⟩
def rT:M:=FE.m
theorem aKg:UL rT FE.m:=ul
def DU:Got (lpM V5.m 1):=⟨_,by conv=>lhs;cbv⟩
def tR:M:=DU.m
theorem aJQ:UL tR DU.m:=ul
def LW:GF 8 [.tmp 2] .norm Tryz.f106:=⟨_,by conv=>lhs;cbv⟩
def Z9:GF 36 [.tmp 4] .shut Tryz.f112:=⟨_,by conv=>lhs;cbv⟩
def CN:Got (lpM Z9.m 0):=⟨_,by conv=>lhs;cbv⟩
def QE:M:=CN.m
theorem aJy:UL QE CN.m:=ul
def aFt:GF 15 [.tmp 4] .shut Tryz.f113 (kpL aL [] [[0,1],[2,3],[5,6]]):=⟨_,by conv=>lhs;reduce⟩
def aFL:GF 16 [] .pass Tryz.f120:=⟨_,by conv=>lhs;cbv⟩
def aHY:GF 13 [] .pass Tryz.f123:=⟨_,by conv=>lhs;cbv⟩
def aNB:GF 41 [] .pass Tryz.f128:=⟨_,by conv=>lhs;cbv⟩
def aTk:GF 95 [] .pass Tryz.f129:=⟨_,by conv=>lhs;cbv⟩
def aDG:GF 46 [] .pass Tryz.f145 (kpL aL [] [[0,1,2],[0,1,2,4],[0,1,4,21,22,23],[0,1,4,21,22,23],[0,1,4,6,21,22,23],[0,1,4,6,7,9,21,22,23],[0,1,4,21,22,23]]):=⟨_,by conv=>lhs;reduce⟩
def FD:Got (lpM aDG.m 0):=⟨_,by conv=>lhs;cbv⟩
def QZ:M:=FD.m
theorem aKP:UL QZ FD.m:=ul
def aIU:GF 27 [.tmp 4] .pass Tryz.f150 (kpL aL [] [[0,1],[1,2],[1,2],[1,2]]):=⟨_,by conv=>lhs;reduce⟩
def aGI:GF 8 [.cell 4 128] .shut Tryz.f151:=⟨_,by conv=>lhs;cbv⟩
def aIW:GF 13 [.tmp 2] .shut Tryz.f153:=⟨_,by conv=>lhs;cbv⟩
def aHf:GF 20 [] .pass Tryz.f155 (kpL aL [] [[0,1,2]]):=⟨_,by conv=>lhs;reduce⟩
def aLp:GF 10 [] .pass Tryz.f168:=⟨_,by conv=>lhs;cbv⟩
def aGA:GF 86 [.cell 10 63,.tmp 11,.tmp 12] .shut Tryz.f170 (kpL aL [] [[0,1,2,3,4],[2,5,6,8,9,10],[8,10],[2,5,6,8,9,10],[2,5,6,8,9,10,30],[2,5,6,8,9,10,30],[8,9,10],[2,5,6,8,9,10],[2,5,6,8,9,10,13,14],[8,10],[2,5,6,8,9,10,13],[8,10],[2,5,6,8,9,10,13],[8,10],[2,5,6,8,9,10,13],[2,6,8,9,10,15],[2,6,8,9,10,15,16],[8,10,16],[2,6,8,9,10,15],[10,15,17],[10,15,17],[10,17]]):=⟨_,by conv=>lhs;reduce⟩
def aJx:GF 6 [.tmp 4] .pass Tryz.f173:=⟨_,by conv=>lhs;cbv⟩
def aNU:GF 74 [.cell 4 4] .shut Tryz.f175 (kpL aL [2,3,4,5,6] [[0,1],[2,3,4],[2,3,4,5,6],[2,3,4,5,6,15,16],[2,3,4,5,6,7,16],[2,3,4,5,6,7,8],[2,4,5,6,7,9],[2,4,5,6,7,9],[4],[6,9],[9],[3,4]]):=⟨_,by conv=>lhs;reduce⟩
def aQ2:GF 67 [.tmp 2] .shut Tryz.f177:=⟨_,by conv=>lhs;cbv⟩
def aJd:GF 45 [.tmp 4] .shut Tryz.f183 (kpL aL [6] [[0,1],[1,2,4],[],[1,2,4],[2,4,5],[5],[2,4,5],[2,5],[2,4,5],[2,4,5,6],[6,36],[6,7],[5,6]]):=⟨_,by conv=>lhs;reduce⟩
def aPq:GF 25 [.tmp 4] .shut Tryz.f185 (kpL aL [] [[0,1],[0,3],[0,3,5]]):=⟨_,by conv=>lhs;reduce⟩
def aSe:GF 8 [.tmp 4] .shut Tryz.f187:=⟨_,by conv=>lhs;cbv⟩
def aId:GF 29 [.tmp 6,.tmp 7,.tmp 8] .shut Tryz.f189 (kpL aL [] [[0,1,2],[2,3,4],[],[2,3,4],[2,4,9],[2,4,6,9],[6,7,8]]):=⟨_,by conv=>lhs;reduce⟩
def aF0:GF 13 [.tmp 5] .pass Tryz.f190:=⟨_,by conv=>lhs;cbv⟩
def aHm:GF 4 [.tmp 2] .pass Tryz.f194:=⟨_,by conv=>lhs;cbv⟩
def aEG:GF 6 [.tmp 2] .shut Tryz.f195:=⟨_,by conv=>lhs;cbv⟩
def aFu:GF 10 [.tmp 4] .shut Tryz.f197:=⟨_,by conv=>lhs;cbv⟩
def aI2:GF 9 [.tmp 2] .shut Tryz.f201:=⟨_,by conv=>lhs;cbv⟩
def aGO:GF 34 [] .pass Tryz.f209 (kpL aL [] [[0,1],[0,1]]):=⟨_,by conv=>lhs;reduce⟩
def aGK:GF 16 [] .pass Tryz.f210:=⟨_,by conv=>lhs;cbv⟩
def aTL:GF 28 [] .pass Tryz.f216 (kpL aL [] [[0],[0,2,3],[0,2,3],[0,2,3]]):=⟨_,by conv=>lhs;reduce⟩
def aKv:GF 34 [.tmp 2] .shut Tryz.f221:=⟨_,by conv=>lhs;cbv⟩
def YQ:GF 43 [.tmp 4] .shut Tryz.f228:=⟨_,by conv=>lhs;cbv⟩
def FF:Got (lpM YQ.m 0):=⟨_,by conv=>lhs;cbv⟩
def TB:M:=FF.m
theorem aKD:UL TB FF.m:=ul
def DS:Got (lpM YQ.m 1):=⟨_,by conv=>lhs;cbv⟩
def TZ:M:=DS.m
theorem aGi:UL TZ DS.m:=ul
def aJv:GF 21 [.tmp 1] .pass Tryz.f229:=⟨_,by conv=>lhs;cbv⟩
def aIx:GF 10 [.tmp 6] .shut Tryz.f231:=⟨_,by conv=>lhs;cbv⟩
def aKG:GF 31 [.tmp 2] .pass Tryz.f237 (kpL aL [] [[0],[0],[]]):=⟨_,by conv=>lhs;reduce⟩
def aKK:GF 23 [] .pass Tryz.f242 (kpL aL [] [[0,1]]):=⟨_,by conv=>lhs;reduce⟩
def aJs:GF 18 [.tmp 4] .shut Tryz.f245:=⟨_,by conv=>lhs;cbv⟩
def aIV:GF 32 [.tmp 6] .shut Tryz.f259:=⟨_,by conv=>lhs;cbv⟩
def aFE:GF 45 [.cell 4 63,.tmp 5,.tmp 6] .shut Tryz.f260:=⟨_,by conv=>lhs;cbv⟩
def aRv:GF 10 [.tmp 4] .shut Tryz.f268:=⟨_,by conv=>lhs;cbv⟩
def aAu:GF 19 [.tmp 4] .shut Tryz.f281:=⟨_,by conv=>lhs;cbv⟩
def DY:Got (lpM aAu.m 0):=⟨_,by conv=>lhs;cbv⟩
def PV:M:=DY.m
theorem aJY:UL PV DY.m:=ul
def F4:GF 220 [] .pass Tryz.f286 (kpL aL [] [[0,1,2,3,4],[0,1,2,3,4],[0,1,3,4,10],[0,1,4,10,11],[0,1,4,10,11],[0,1,4,10,11,12],[0,1,4,11,12],[0,1,4,10,12],[0,1,10],[0,10,13],[0,10,13],[0,10,13],[0,1,2,3,4],[0,1,2,4],[0,2,4,14],[0,2,4,14,15],[0,2,4,14,15],[0,2,4,14,15,16],[0,2,4,15,16],[0,2,4,14,16],[0,2,14],[0,14,17],[0,14,17],[0,14,17],[0,1,2,3,4],[0,1,2,3,4,18],[0,1,2,3,4,18,19],[0,1,2,3,4,18,19],[0,1,2,3,4,18,19],[0,1,2,3,4,18,19,20],[0,1,2,3,4,18,19],[0,1,2,3,4,18,19,20],[0,1,2,3,4,18,19,20,21],[0,1,2,3,4,18,19,20,21,22],[0,1,2,3,4,18,19,20,21,22],[0,1,2,3,4,18,19,20,21,22,23],[0,1,2,3,4,18,19,21,22,23],[0,1,2,3,4,18,19,20,22,23],[0,1,2,3,4,18,19,20],[0,1,2,3,4,18,20,24],[0,1,2,3,4,18,20,24],[0,1,3,4,18,20,24],[0,1,3,4,18,20,24],[0,3,4,18,24],[0,3,4,18,24]]):=⟨_,by conv=>lhs;reduce⟩
def FA:Got (lpM F4.m 0):=⟨_,by conv=>lhs;cbv⟩
def QT:M:=FA.m
theorem aGz:UL QT FA.m:=ul
def DX:Got (lpM F4.m 1):=⟨_,by conv=>lhs;cbv⟩
def QA:M:=DX.m
theorem aHr:UL QA DX.m:=ul
def EU:Got (lpM F4.m 2):=⟨_,by conv=>lhs;cbv⟩
def TL:M:=EU.m
theorem aEJ:UL TL EU.m:=ul
def B9:Got (lpM F4.m 3):=⟨_,by conv=>lhs;cbv⟩
def QF:M:=B9.m
theorem aJj:UL QF B9.m:=ul
def DA:Got (lpM F4.m 4):=⟨_,by conv=>lhs;cbv⟩
def RZ:M:=DA.m
theorem aIS:UL RZ DA.m:=ul
def aKJ:GF 9 [.tmp 4] .shut Tryz.f293:=⟨_,by conv=>lhs;cbv⟩
def aRK:GF 7 [.tmp 0] .shut Tryz.f296:=⟨_,by conv=>lhs;cbv⟩
def aGT:GF 22 [.tmp 4,.tmp 5] .shut Tryz.f302 (kpL aL [] [[0,1],[2,3],[],[2,3],[2,6]]):=⟨_,by conv=>lhs;reduce⟩
def aPv:GF 2 [.cell 0 450] .shut Tryz.f303:=⟨_,by conv=>lhs;cbv⟩
def aGx:GF 20 [] .pass Tryz.f309 (kpL aL [] [[0]]):=⟨_,by conv=>lhs;reduce⟩
def aF9:GF 15 [] .pass Tryz.f312 (kpL aL [] [[0]]):=⟨_,by conv=>lhs;reduce⟩
def aFX:GF 11 [] .pass Tryz.f313:=⟨_,by conv=>lhs;cbv⟩
def aGC:GF 20 [.tmp 4] .shut Tryz.f322:=⟨_,by conv=>lhs;cbv⟩
def aBs:GF 37 [.tmp 2] .shut Tryz.f323:=⟨_,by conv=>lhs;cbv⟩
def FC:Got (lpM aBs.m 0):=⟨_,by conv=>lhs;cbv⟩
def CB:M:=FC.m
theorem aLk:UL CB FC.m:=ul
def aKi:GF 15 [] .pass Tryz.f324:=⟨_,by conv=>lhs;cbv⟩
def aRG:GF 19 [.tmp 4] .shut Tryz.f326:=⟨_,by conv=>lhs;cbv⟩
def aCz:GF 58 [] .pass Tryz.f330:=⟨_,by conv=>lhs;cbv⟩
def CM:Got (lpM aCz.m 0):=⟨_,by conv=>lhs;cbv⟩
def SA:M:=CM.m
theorem aIm:UL SA CM.m:=ul
def aS3:GF 47 [.tmp 2] .shut Tryz.f332:=⟨_,by conv=>lhs;cbv⟩
def aJc:GF 16 [.tmp 1] .pass Tryz.f342:=⟨_,by conv=>lhs;cbv⟩
def aEV:GF 64 [.tmp 2] .pass Tryz.f344:=⟨_,by conv=>lhs;cbv⟩
def aHL:GF 25 [.tmp 4,.tmp 5] .pass Tryz.f348:=⟨_,by conv=>lhs;cbv⟩
def aUG:GF 7 [.cell 4 128] .shut Tryz.f349:=⟨_,by conv=>lhs;cbv⟩
def aBz:GF 25 [] .pass Tryz.f353 (kpL aL [] [[0,1,2,3],[0,2,3,8,9],[0,2,3,8,9],[0,2,3,5,8,9],[0,2,3,8,9]]):=⟨_,by conv=>lhs;reduce⟩
def C2:Got (lpM aBz.m 0):=⟨_,by conv=>lhs;cbv⟩
def oB:M:=C2.m
theorem aKm:UL oB C2.m:=ul
def aHw:GF 76 [.cell 6 133,.tmp 7] .shut Tryz.f366 (kpL aL [] [[0,1,2],[3,4,5,6],[4,6],[3,4,5,6],[4,6],[3,4,5,6],[3,4,5,6,8,9,10],[4,5,6,8,9],[4,6],[3,4,5,6,8],[4,5,6,8,9,11],[4,6],[4,5,6,8,9],[4,6,8,9],[4,6]]):=⟨_,by conv=>lhs;reduce⟩
def aJI:GF 36 [] .pass Tryz.f370 (kpL aL [] [[0,1],[0,1],[1]]):=⟨_,by conv=>lhs;reduce⟩
def aHu:GF 6 [.cell 2 59] .shut Tryz.f372:=⟨_,by conv=>lhs;cbv⟩
def aB3:GF 23 [] .pass Tryz.f376 (kpL aL [] [[0,1],[0,1,3,4],[0,1,3],[0,1,3],[0,1,3],[0,1,22]]):=⟨_,by conv=>lhs;reduce⟩
def FQ:Got (lpM aB3.m 0):=⟨_,by conv=>lhs;cbv⟩
def xA:M:=FQ.m
theorem aF3:UL xA FQ.m:=ul
def ZA:GF 57 [.cell 2 429,.tmp 3] .pass Tryz.f377 (kpL aL [] [[0],[0,2],[0,2],[0,2],[0,2],[0,2],[0,2,4],[0,2,4,5],[0,2,4,5],[0,2,4],[2,4],[0,2,5],[2]]):=⟨_,by conv=>lhs;reduce⟩
def DH:Got (lpM ZA.m 0):=⟨_,by conv=>lhs;cbv⟩
def TK:M:=DH.m
theorem aG1:UL TK DH.m:=ul
def aIR:GF 34 [] .pass Tryz.f380 (kpL aL [] [[0,1],[0,6,7,8],[0,6,7,8],[0,5,6,7,8],[0,5,6,7,8],[0,6,7,8]]):=⟨_,by conv=>lhs;reduce⟩
def aEB:GF 13 [.tmp 2] .pass Tryz.f381 (kpL aL [] [[0],[0]]):=⟨_,by conv=>lhs;reduce⟩
def aJp:GF 51 [.cell 2 429] .pass Tryz.f390 (kpL aL [] [[0],[0,2],[0,2,3,4],[0,2,3,4,17],[0,2],[0,2,3,4,17],[0,2],[0,2,3,4],[0,2,3,4,5],[0,2,3,5]]):=⟨_,by conv=>lhs;reduce⟩
def aLv:GF 39 [.cell 4 59] .shut Tryz.f394:=⟨_,by conv=>lhs;cbv⟩
def aE9:GF 16 [.cell 4 59] .shut Tryz.f395:=⟨_,by conv=>lhs;cbv⟩
