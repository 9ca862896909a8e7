/- The evaluator's context: types and bodies, and that they are the program's. Printed by wip/ev/gen/ctx.py. -/
import Derived.Test.YtcgigdeehcmdkaaGreatDoorK10
set_option linter.all false
namespace Go.Proofs.YtcgigdeehcmdkaaGreatDoor.Ev
open Go Go.RowKit
set_option maxRecDepth 100000
def g12:GF 24 [.tmp 4] .shut Tryz.f12:=⟨_,by conv=>lhs;cbv⟩
def g17:GF 43 [.tmp 4,.tmp 5] .shut Tryz.f17:=⟨_,by conv=>lhs;cbv⟩
def JL:Got (lpM g17.m 0):=⟨_,by conv=>lhs;cbv⟩
def aBM:M:=JL.m
theorem aNC:UL aBM JL.m:=ul
def g18:GF 23 [.tmp 4] .shut Tryz.f18 (kpL aL [] [[0,1],[1,2],[1,2,5],[1,2,5,6],[1,2,5,6],[1,2,5,6],[5]]):=⟨_,by conv=>lhs;reduce⟩
def LL:Got (lpM g18.m 0):=⟨_,by conv=>lhs;cbv⟩
def Z0:M:=LL.m
theorem aL9:UL Z0 LL.m:=ul
def g21:GF 19 [.tmp 4] .shut Tryz.f21:=⟨_,by conv=>lhs;cbv⟩
def g24:GF 24 [.tmp 6] .shut Tryz.f24 (kpL aL [] [[0,1,2],[3,4,5]]):=⟨_,by conv=>lhs;reduce⟩
def g26:GF 2 [.cell 0 97] .shut Tryz.f26:=⟨_,by conv=>lhs;cbv⟩
def g33:GF 77 [.cell 6 4,.cell 7 48] .pass Tryz.f33 (kpL aL [3,4,5,6,7] [[0,1,2],[3,4,5,6,7],[3,4,5,6,7],[3,4,5,6,7],[3,4,5,6,7,26,27],[3,4,5,6,7,8,27],[3,4,5,6,7,8,9],[3,4,5,6,7,8,9],[3,4,5,6,7,8,9],[3,4,5,6,7,8],[6,7],[3,4,5,6,7,8,9],[3,5,6,7,10,11,12],[6,7,12],[3,5,6,7,10,11],[6,7],[6,7]]):=⟨_,by conv=>lhs;reduce⟩
def g34:GF 61 [.tmp 2] .shut Tryz.f34:=⟨_,by conv=>lhs;cbv⟩
def g39:GF 23 [.cell 8 61] .shut Tryz.f39:=⟨_,by conv=>lhs;cbv⟩
def g43:GF 4 [.tmp 2] .pass Tryz.f43:=⟨_,by conv=>lhs;cbv⟩
def g54:GF 4 [] .pass Tryz.f54:=⟨_,by conv=>lhs;cbv⟩
def g57:GF 11 [] .pass Tryz.f57:=⟨_,by conv=>lhs;cbv⟩
def g59:GF 54 [.cell 2 42,.tmp 3] .shut Tryz.f59:=⟨_,by conv=>lhs;cbv⟩
def g67:GF 37 [.tmp 4] .pass Tryz.f67 (kpL aL [] [[0,1],[0,1],[0,5],[0,5],[5]]):=⟨_,by conv=>lhs;reduce⟩
def g68:GF 30 [.tmp 4] .pass Tryz.f68:=⟨_,by conv=>lhs;cbv⟩
def g69:GF 6 [.tmp 4] .pass Tryz.f69:=⟨_,by conv=>lhs;cbv⟩
def g70:GF 78 [.tmp 8,.tmp 9,.tmp 10] .pass Tryz.f70 (kpL aL [] [[0,1,2,3],[0,2,5,7],[0,2,5,7,11],[0,2,5,7,11,12,13],[12],[0,2,5,7,11],[0,2,5,7,11,14],[],[0,2,5,7,11,14],[0,2,5,7,14],[14]]):=⟨_,by conv=>lhs;reduce⟩
def g93:GF 46 [.tmp 2] .shut Tryz.f93:=⟨_,by conv=>lhs;cbv⟩
def g94:GF 80 [.tmp 2] .shut Tryz.f94 (kpL aL [] [[0],[0],[0,3],[0,3,12,13,14],[0,3,12,13,14],[0,3,5,12,13,14],[0,3,5,12,13,14],[0,3,12,13,14],[0,3],[],[0,3],[0,3],[0,3],[0,3],[3,6],[3,6],[3],[3,68,69,70],[3,68,69,70],[3,8,68,69,70],[],[3,68,69,70],[]]):=⟨_,by conv=>lhs;reduce⟩
def g95:GF 97 [.tmp 2] .shut Tryz.f95 (kpL aL [] [[0],[0],[0,3],[],[0,3],[0,3],[],[0,3],[0,3,4],[],[0,3,17],[0,3,17],[0,3],[],[0,3],[0,3,5],[3,5,54,55,56],[3,5,54,55,56],[3,5,6,7,54,55,56],[3,5,6,7,54,55,56],[3,5,6,7,8,54,55,56],[3,5,6,7,8,54,55,56],[3,5,6,7,8,54,55,56],[3,5,6,7,54,55,56],[],[3,5,54,55,56],[]]):=⟨_,by conv=>lhs;reduce⟩
def g97:GF 28 [.cell 6 124,.tmp 7] .shut Tryz.f97:=⟨_,by conv=>lhs;cbv⟩
def aRY:GF 6 [.tmp 2] .shut Tryz.f100:=⟨_,by conv=>lhs;cbv⟩
def aEk:GF 9 [.tmp 2] .shut Tryz.f108:=⟨_,by conv=>lhs;cbv⟩
def aDt:GF 9 [] .pass Tryz.f109:=⟨_,by conv=>lhs;cbv⟩
def aAi:GF 36 [.tmp 4] .shut Tryz.f112:=⟨_,by conv=>lhs;cbv⟩
def DH:Got (lpM aAi.m 0):=⟨_,by conv=>lhs;cbv⟩
def NF:M:=DH.m
theorem aDl:UL NF DH.m:=ul
def aCL:GF 16 [] .pass Tryz.f114:=⟨_,by conv=>lhs;cbv⟩
def aEJ:GF 5 [] .pass Tryz.f115:=⟨_,by conv=>lhs;cbv⟩
def aPp:GF 95 [] .pass Tryz.f129:=⟨_,by conv=>lhs;cbv⟩
def XY:GF 46 [] .pass Tryz.f145 (kpL aL [] [[0,1,2],[0,1,2,4],[0,1,4,21,22,23],[0,1,4,21,22,23],[0,1,4,6,21,22,23],[0,1,4,6,7,9,21,22,23],[0,1,4,21,22,23]]):=⟨_,by conv=>lhs;reduce⟩
def C4:Got (lpM XY.m 0):=⟨_,by conv=>lhs;cbv⟩
def PZ:M:=C4.m
theorem aI0:UL PZ C4.m:=ul
def aHE:GF 13 [.tmp 2] .shut Tryz.f153:=⟨_,by conv=>lhs;cbv⟩
def aE1:GF 20 [] .pass Tryz.f155 (kpL aL [] [[0,1,2]]):=⟨_,by conv=>lhs;reduce⟩
def aIr:GF 44 [.cell 6 120] .norm Tryz.f156:=⟨_,by conv=>lhs;cbv⟩
def aFG:GF 40 [.tmp 8,.tmp 9] .pass Tryz.f157 (kpL aL [] [[0,1,2,3],[4,5,6,7],[],[4,5,6,7],[4,5,7,10,11],[11],[4,5,7,10]]):=⟨_,by conv=>lhs;reduce⟩
def aHF:GF 15 [.tmp 4] .pass Tryz.f164 (kpL aL [] [[0,1,2],[0,1,2]]):=⟨_,by conv=>lhs;reduce⟩
def aGC:GF 29 [.tmp 4,.cell 5 77,.tmp 6] .norm Tryz.f165 (kpL aL [] [[0,1],[0,1,5],[5],[0,1,5]]):=⟨_,by conv=>lhs;reduce⟩
def aHQ:GF 20 [] .pass Tryz.f171 (kpL aL [] [[0,1,2,3,4],[1,3,4]]):=⟨_,by conv=>lhs;reduce⟩
def aMO:GF 74 [.cell 4 4] .shut Tryz.f175 (kpL aL [2,3,4,5,6] [[0,1],[2,3,4],[2,3,4,5,6],[2,3,4,5,6,15,16],[2,3,4,5,6,7,16],[2,3,4,5,6,7,8],[2,4,5,6,7,9],[2,4,5,6,7,9],[4],[6,9],[9],[3,4]]):=⟨_,by conv=>lhs;reduce⟩
def aPL:GF 42 [.tmp 4] .shut Tryz.f176:=⟨_,by conv=>lhs;cbv⟩
def aRh:GF 50 [.tmp 2] .shut Tryz.f179 (kpL aL [] [[0],[1],[1,3],[1,3],[1,3],[1,3],[1,3],[1,3],[1,3],[1,3],[1,3]]):=⟨_,by conv=>lhs;reduce⟩
def aK0:GF 57 [.tmp 4] .shut Tryz.f180 (kpL aL [] [[0,1],[1,2],[],[1,2],[1,2,9],[1,2],[1,2,9],[1,2],[2],[1,2],[1,2,9],[1,2],[]]):=⟨_,by conv=>lhs;reduce⟩
def aOG:GF 8 [.tmp 4] .shut Tryz.f187:=⟨_,by conv=>lhs;cbv⟩
def aFc:GF 9 [.tmp 2] .shut Tryz.f201:=⟨_,by conv=>lhs;cbv⟩
def aES:GF 25 [.cell 2 340] .shut Tryz.f202 (kpL aL [] [[0],[1,2],[1,2,3],[1,2,3],[1,2,3],[2,3]]):=⟨_,by conv=>lhs;reduce⟩
def aEg:GF 16 [] .pass Tryz.f203:=⟨_,by conv=>lhs;cbv⟩
def aDG:GF 16 [] .pass Tryz.f204 (kpL aL [] [[0,1]]):=⟨_,by conv=>lhs;reduce⟩
def aDQ:GF 8 [] .pass Tryz.f207:=⟨_,by conv=>lhs;cbv⟩
def aF6:GF 34 [] .pass Tryz.f211 (kpL aL [] [[0,1],[0,1],[0,1]]):=⟨_,by conv=>lhs;reduce⟩
def aR5:GF 33 [] .pass Tryz.f213:=⟨_,by conv=>lhs;cbv⟩
def aNB:GF 22 [] .pass Tryz.f215 (kpL aL [] [[0,1,2,3,4]]):=⟨_,by conv=>lhs;reduce⟩
def aEb:GF 34 [.tmp 2] .shut Tryz.f221:=⟨_,by conv=>lhs;cbv⟩
def aDZ:GF 6 [.tmp 2] .pass Tryz.f226:=⟨_,by conv=>lhs;cbv⟩
def aGe:GF 21 [.tmp 1] .pass Tryz.f229:=⟨_,by conv=>lhs;cbv⟩
def aI2:GF 23 [] .pass Tryz.f242 (kpL aL [] [[0,1]]):=⟨_,by conv=>lhs;reduce⟩
def aHW:GF 18 [.tmp 4] .shut Tryz.f245:=⟨_,by conv=>lhs;cbv⟩
def aEd:GF 17 [.tmp 4] .shut Tryz.f247:=⟨_,by conv=>lhs;cbv⟩
def aHb:GF 21 [.tmp 6,.tmp 7] .shut Tryz.f250 (kpL aL [] [[0,1,2],[2,3,4],[],[2,3,4],[2,4,8]]):=⟨_,by conv=>lhs;reduce⟩
def SQ:GF 65 [.cell 8 124,.tmp 9] .pass Tryz.f252 (kpL aL [7,12] [[0,1,2,3],[2,4,5,7,8,9],[8],[2,4,5,7,8,9],[2,5,7,8,9,10],[5,7,8,9,10,11,12],[7,12,33,34],[7,12,13,34],[7,12,13,14],[12,13],[5,8,11,12],[5,8,11,15,16],[8],[5,8,11,15]]):=⟨_,by conv=>lhs;reduce⟩
def DB:Got (lpM SQ.m 0):=⟨_,by conv=>lhs;cbv⟩
def vZ:M:=DB.m
theorem aE5:UL vZ DB.m:=ul
def DQ:Got (lpM SQ.m 1):=⟨_,by conv=>lhs;cbv⟩
def wC:M:=DQ.m
theorem aDC:UL wC DQ.m:=ul
def aGf:GF 32 [.tmp 6] .shut Tryz.f259:=⟨_,by conv=>lhs;cbv⟩
def aFQ:GF 45 [.cell 4 63,.tmp 5,.tmp 6] .shut Tryz.f260:=⟨_,by conv=>lhs;cbv⟩
def aHM:GF 35 [.tmp 2] .shut Tryz.f266:=⟨_,by conv=>lhs;cbv⟩
def aQU:GF 10 [.tmp 4] .shut Tryz.f268:=⟨_,by conv=>lhs;cbv⟩
def aOE:GF 8 [.tmp 4] .shut Tryz.f275:=⟨_,by conv=>lhs;cbv⟩
def aLT:GF 19 [.tmp 4] .shut Tryz.f281:=⟨_,by conv=>lhs;cbv⟩
def aF3:GF 9 [.tmp 4] .shut Tryz.f293:=⟨_,by conv=>lhs;cbv⟩
def aHH:GF 14 [.tmp 2] .pass Tryz.f294:=⟨_,by conv=>lhs;cbv⟩
def aGO:GF 21 [] .pass Tryz.f297 (kpL aL [] [[0,1],[0,1]]):=⟨_,by conv=>lhs;reduce⟩
def aEi:GF 22 [.tmp 4,.tmp 5] .shut Tryz.f302 (kpL aL [] [[0,1],[2,3],[],[2,3],[2,6]]):=⟨_,by conv=>lhs;reduce⟩
def aQd:GF 2 [.cell 0 450] .shut Tryz.f303:=⟨_,by conv=>lhs;cbv⟩
def aD0:GF 30 [.tmp 4] .shut Tryz.f306:=⟨_,by conv=>lhs;cbv⟩
def aEF:GF 11 [] .pass Tryz.f313:=⟨_,by conv=>lhs;cbv⟩
def aH7:GF 12 [] .pass Tryz.f315:=⟨_,by conv=>lhs;cbv⟩
def aGI:GF 27 [] .pass Tryz.f317 (kpL aL [] [[0],[0],[0]]):=⟨_,by conv=>lhs;reduce⟩
def aFY:GF 6 [] .pass Tryz.f319:=⟨_,by conv=>lhs;cbv⟩
def aHU:GF 11 [] .pass Tryz.f321:=⟨_,by conv=>lhs;cbv⟩
def aFB:GF 20 [.tmp 4] .shut Tryz.f322:=⟨_,by conv=>lhs;cbv⟩
def aRF:GF 19 [.tmp 4] .shut Tryz.f326:=⟨_,by conv=>lhs;cbv⟩
def aMR:GF 220 [] .pass Tryz.f329 (kpL aL [] [[0,1,2,3,4],[0,1,2,3,4],[0,1,3,4,10],[0,1,4,10,11],[0,1,4,10,11],[0,1,4,10,11,12],[0,1,4,11,12],[0,1,4,10,12],[0,1,10],[0,10,13],[0,10,13],[0,10,13],[0,1,2,3,4],[0,1,2,4],[0,2,4,14],[0,2,4,14,15],[0,2,4,14,15],[0,2,4,14,15,16],[0,2,4,15,16],[0,2,4,14,16],[0,2,14],[0,14,17],[0,14,17],[0,14,17],[0,1,2,3,4],[0,1,2,3,4,18],[0,1,2,3,4,18,19],[0,1,2,3,4,18,19],[0,1,2,3,4,18,19],[0,1,2,3,4,18,19,20],[0,1,2,3,4,18,19],[0,1,2,3,4,18,19,20],[0,1,2,3,4,18,19,20,21],[0,1,2,3,4,18,19,20,21,22],[0,1,2,3,4,18,19,20,21,22],[0,1,2,3,4,18,19,20,21,22,23],[0,1,2,3,4,18,19,21,22,23],[0,1,2,3,4,18,19,20,22,23],[0,1,2,3,4,18,19,20],[0,1,2,3,4,18,20,24],[0,1,2,3,4,18,20,24],[0,1,3,4,18,20,24],[0,1,3,4,18,20,24],[0,3,4,18,24],[0,3,4,18,24]]):=⟨_,by conv=>lhs;reduce⟩
def aLC:GF 47 [.tmp 2] .shut Tryz.f332:=⟨_,by conv=>lhs;cbv⟩
def aIh:GF 16 [.tmp 2] .shut Tryz.f334:=⟨_,by conv=>lhs;cbv⟩
def aCC:GF 8 [.tmp 1] .pass Tryz.f339:=⟨_,by conv=>lhs;cbv⟩
def aRE:GF 23 [.cell 4 128] .shut Tryz.f350:=⟨_,by conv=>lhs;cbv⟩
def aHB:GF 16 [.tmp 4] .pass Tryz.f355 (kpL aL [] [[0,1,2],[0,1,2]]):=⟨_,by conv=>lhs;reduce⟩
def aCW:GF 13 [] .pass Tryz.f359 (kpL aL [] [[0]]):=⟨_,by conv=>lhs;reduce⟩
def aDE:GF 76 [.cell 6 133,.tmp 7] .shut Tryz.f366 (kpL aL [] [[0,1,2],[3,4,5,6],[4,6],[3,4,5,6],[4,6],[3,4,5,6],[3,4,5,6,8,9,10],[4,5,6,8,9],[4,6],[3,4,5,6,8],[4,5,6,8,9,11],[4,6],[4,5,6,8,9],[4,6,8,9],[4,6]]):=⟨_,by conv=>lhs;reduce⟩
def aQI:GF 58 [] .pass Tryz.f374:=⟨_,by conv=>lhs;cbv⟩
def ZO:GF 57 [.cell 2 429,.tmp 3] .pass Tryz.f377 (kpL aL [] [[0],[0,2],[0,2],[0,2],[0,2],[0,2],[0,2,4],[0,2,4,5],[0,2,4,5],[0,2,4],[2,4],[0,2,5],[2]]):=⟨_,by conv=>lhs;reduce⟩
def C9:Got (lpM ZO.m 0):=⟨_,by conv=>lhs;cbv⟩
def O2:M:=C9.m
theorem aEc:UL O2 C9.m:=ul
def SX:GF 30 [.tmp 2] .shut Tryz.f378:=⟨_,by conv=>lhs;cbv⟩
def aHr:GF 28 [.cell 4 128] .shut Tryz.f384 (kpL aL [] [[0,1],[1,2,4],[2,4],[1,2,4]]):=⟨_,by conv=>lhs;reduce⟩
def aI3:GF 18 [.tmp 2] .pass Tryz.f389 (kpL aL [] [[0],[0]]):=⟨_,by conv=>lhs;reduce⟩
def aFo:GF 13 [.tmp 2] .pass Tryz.f391 (kpL aL [] [[0],[0]]):=⟨_,by conv=>lhs;reduce⟩
def aH6:GF 46 [.tmp 2] .pass Tryz.f396 (kpL aL [] [[0],[0],[0,3],[0,3,4],[3],[3]]):=⟨_,by conv=>lhs;reduce⟩
