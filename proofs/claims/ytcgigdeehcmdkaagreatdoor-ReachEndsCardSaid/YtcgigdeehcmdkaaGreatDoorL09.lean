/- The evaluator's context: types and bodies, and that they are the program's. Printed by wip/ev/gen/ctx.py. -/
import Derived.Test.YtcgigdeehcmdkaaGreatDoorL06
set_option linter.all false
namespace Go.Proofs.YtcgigdeehcmdkaaGreatDoor.Ev
open Go Go.RowKit
set_option maxRecDepth 100000
def g11:GF 36 [.tmp 4] .norm Tryz.f11 (kpL aL [5,6] [[0,1],[2,3,4],[],[2,3,4],[4,5],[4,5,6],[5,6,19],[5,6,7],[6,7,9],[6,7],[6,7,26],[6,7,26],[6,7,26],[6]]):=⟨_,by conv=>lhs;reduce⟩
def LS:Got (lpM g11.m 0):=⟨_,by conv=>lhs;cbv⟩
def vC:M:=LS.m
theorem aSp:UL vC LS.m:=ul
def NA:Got (lpM g11.m 1):=⟨_,by conv=>lhs;cbv⟩
def uI:M:=NA.m
theorem aSa:UL uI NA.m:=ul
def g14:GF 53 [.cell 6 67,.tmp 7,.tmp 8] .norm Tryz.f14 (kpL aL [] [[0,1,2],[3,4,5,6],[6],[3,4,5,6],[6],[3,4,5,6],[5,6,9],[6,9,10,11],[6,11],[6,9,10],[6,9],[6],[6,9]]):=⟨_,by conv=>lhs;reduce⟩
def g22:GF 118 [.tmp 4,.tmp 5] .shut Tryz.f22 (kpL aL [] [[0,1],[1,2],[6,7],[7],[6],[6,8],[6,8,9],[9],[6,8],[6,8,10],[6,10,39,40,41],[6,10,39,40,41],[6,10,12,39,40,41],[6,10,39,40,41],[6,10],[6,10,13],[6,10,13,14],[6,10,13,14,65,66],[6,10,13,14,65,66],[6,10,13,14,15,65,66],[6,10,13,14,15,65,66],[6,10,13,14,15,65,66],[6,10,13,14,65,66],[6,10,13,14],[6,10,13,14,16],[6,10,13,14,16],[6,10,13,14,16],[6,10,13,14,16,92,93,94],[6,10,13,14,16,92,93,94],[6,10,13,14,16,18,92,93,94],[6,10,13,14,16,18,92,93,94],[6,10,13,14,16,18,92,93,94],[6,10,13,14,16,92,93,94],[6,14]]):=⟨_,by conv=>lhs;reduce⟩
def NP:Got (lpM g22.m 0):=⟨_,by conv=>lhs;cbv⟩
def ZB:M:=NP.m
theorem aNG:UL ZB NP.m:=ul
def MR:Got (lpM g22.m 1):=⟨_,by conv=>lhs;cbv⟩
def aDX:M:=MR.m
theorem aSt:UL aDX MR.m:=ul
def KY:Got (lpM g22.m 2):=⟨_,by conv=>lhs;cbv⟩
def DE:M:=KY.m
theorem aUo:UL DE KY.m:=ul
def LT:Got (lpM g22.m 3):=⟨_,by conv=>lhs;cbv⟩
def aAX:M:=LT.m
theorem aRk:UL aAX LT.m:=ul
def g25:GF 23 [.cell 6 44] .pass Tryz.f25:=⟨_,by conv=>lhs;cbv⟩
def g40:GF 12 [.cell 6 63] .shut Tryz.f40 (kpL aL [] [[0,1,2],[0,1,5,6]]):=⟨_,by conv=>lhs;reduce⟩
def g45:GF 64 [.tmp 4] .shut Tryz.f45 (kpL aL [] [[0,1],[2,3],[],[2,3],[2,3,24,25,26],[2,3,24,25,26],[2,3,6,24,25,26],[],[2,3,24,25,26],[2,3],[2,3,37,38,39],[2,3,37,38,39],[2,3,8,37,38,39],[],[2,3,37,38,39],[2,3],[2,3,51,52],[2,3,51,52],[2,3,9,51,52],[],[2,3,51,52],[]]):=⟨_,by conv=>lhs;reduce⟩
def g46:GF 6 [.cell 0 149] .shut Tryz.f46:=⟨_,by conv=>lhs;cbv⟩
def g50:GF 77 [.tmp 4] .shut Tryz.f50:=⟨_,by conv=>lhs;cbv⟩
def OF:Got (lpM g50.m 0):=⟨_,by conv=>lhs;cbv⟩
def OL:M:=OF.m
theorem aSC:UL OL OF.m:=ul
def K8:Got (lpM g50.m 1):=⟨_,by conv=>lhs;cbv⟩
def zT:M:=K8.m
theorem aNZ:UL zT K8.m:=ul
def g53:GF 45 [.cell 4 48] .pass Tryz.f53 (kpL aL [2,3,4,5] [[0,1],[2,3,4],[2,3,4,5],[2,3,4,5],[2,3,4,5],[2,3,4,5,22,23],[2,3,4,5,6,23],[2,3,4,5,6,7],[2,3,4,5,6,7],[3,4,5,8,10],[4,10],[3,5,8],[2,3,4,5],[2,3,4,44],[4]]):=⟨_,by conv=>lhs;reduce⟩
def MS:Got (lpM g53.m 0):=⟨_,by conv=>lhs;cbv⟩
def aAP:M:=MS.m
theorem aRP:UL aAP MS.m:=ul
def OK:Got (lpM g53.m 1):=⟨_,by conv=>lhs;cbv⟩
def ZS:M:=OK.m
theorem aOf:UL ZS OK.m:=ul
def OA:Got (lpM g53.m 2):=⟨_,by conv=>lhs;cbv⟩
def aDa:M:=OA.m
theorem aRd:UL aDa OA.m:=ul
def g67:GF 37 [.tmp 4] .pass Tryz.f67 (kpL aL [] [[0,1],[0,1],[0,5],[0,5],[5]]):=⟨_,by conv=>lhs;reduce⟩
def g68:GF 30 [.tmp 4] .pass Tryz.f68:=⟨_,by conv=>lhs;cbv⟩
def g69:GF 6 [.tmp 4] .pass Tryz.f69:=⟨_,by conv=>lhs;cbv⟩
def g82:GF 36 [.tmp 4,.tmp 5] .pass Tryz.f82:=⟨_,by conv=>lhs;cbv⟩
def g84:GF 76 [.tmp 4,.tmp 5] .pass Tryz.f84 (kpL aL [] [[0,1],[0,3],[0,3,6],[],[0,3,6],[0,3,6,8],[],[0,3,6],[0,6,9,10,11]]):=⟨_,by conv=>lhs;reduce⟩
def g87:GF 19 [.tmp 4] .norm Tryz.f87 (kpL aL [5] [[0,1],[0,1,4],[],[0,1,4],[0,1,4,5],[5,13],[5,6],[5]]):=⟨_,by conv=>lhs;reduce⟩
def M7:Got (lpM g87.m 0):=⟨_,by conv=>lhs;cbv⟩
def CF:M:=M7.m
theorem aOr:UL CF M7.m:=ul
def LN:Got (lpM g87.m 1):=⟨_,by conv=>lhs;cbv⟩
def FV:M:=LN.m
theorem aOD:UL FV LN.m:=ul
def g95:GF 97 [.tmp 2] .shut Tryz.f95 (kpL aL [] [[0],[0],[0,3],[],[0,3],[0,3],[],[0,3],[0,3,4],[],[0,3,17],[0,3,17],[0,3],[],[0,3],[0,3,5],[3,5,54,55,56],[3,5,54,55,56],[3,5,6,7,54,55,56],[3,5,6,7,54,55,56],[3,5,6,7,8,54,55,56],[3,5,6,7,8,54,55,56],[3,5,6,7,8,54,55,56],[3,5,6,7,54,55,56],[],[3,5,54,55,56],[]]):=⟨_,by conv=>lhs;reduce⟩
def g96:GF 80 [.tmp 2] .shut Tryz.f96:=⟨_,by conv=>lhs;cbv⟩
def g97:GF 28 [.cell 6 124,.tmp 7] .shut Tryz.f97:=⟨_,by conv=>lhs;cbv⟩
def aF4:GF 6 [.tmp 2] .shut Tryz.f100:=⟨_,by conv=>lhs;cbv⟩
def aGl:GF 8 [.tmp 2] .pass Tryz.f103:=⟨_,by conv=>lhs;cbv⟩
def OI:GF 8 [.tmp 2] .norm Tryz.f104:=⟨_,by conv=>lhs;cbv⟩
def aGc:GF 9 [] .pass Tryz.f109:=⟨_,by conv=>lhs;cbv⟩
def aIb:GF 20 [.cell 4 205] .shut Tryz.f111 (kpL aL [] [[0,1],[1,2,4],[2,4],[2,4]]):=⟨_,by conv=>lhs;reduce⟩
def aFD:GF 16 [] .pass Tryz.f114:=⟨_,by conv=>lhs;cbv⟩
def aHI:GF 54 [] .pass Tryz.f116 (kpL aL [] [[0,1],[1,2],[1,2],[1,2],[1,2],[1,2]]):=⟨_,by conv=>lhs;reduce⟩
def aFR:GF 41 [] .pass Tryz.f119 (kpL aL [] [[0,1],[1,2],[1,2],[1,2]]):=⟨_,by conv=>lhs;reduce⟩
def aGR:GF 5 [] .pass Tryz.f121:=⟨_,by conv=>lhs;cbv⟩
def aII:GF 9 [] .pass Tryz.f125:=⟨_,by conv=>lhs;cbv⟩
def aHF:GF 7 [.tmp 2] .shut Tryz.f126:=⟨_,by conv=>lhs;cbv⟩
def aNq:GF 10 [.tmp 2] .shut Tryz.f127:=⟨_,by conv=>lhs;cbv⟩
def aUm:GF 60 [] .pass Tryz.f130:=⟨_,by conv=>lhs;cbv⟩
def aPi:GF 26 [.tmp 4] .shut Tryz.f138 (kpL aL [] [[0,1],[0,1],[],[0,1],[0,1,12,13],[0,1,12,13],[0,1,5,12,13],[],[0,1,12,13],[]]):=⟨_,by conv=>lhs;reduce⟩
def aDx:GF 32 [.tmp 2] .shut Tryz.f147:=⟨_,by conv=>lhs;cbv⟩
def F5:Got (lpM aDx.m 0):=⟨_,by conv=>lhs;cbv⟩
def FR:M:=F5.m
theorem aEZ:UL FR F5.m:=ul
def aG7:GF 42 [.tmp 4] .shut Tryz.f149:=⟨_,by conv=>lhs;cbv⟩
def aLy:GF 12 [.tmp 10] .pass Tryz.f161:=⟨_,by conv=>lhs;cbv⟩
def aFV:GF 52 [.cell 10 133,.tmp 11,.tmp 12] .shut Tryz.f162:=⟨_,by conv=>lhs;cbv⟩
def aEw:GF 22 [.tmp 4] .shut Tryz.f166:=⟨_,by conv=>lhs;cbv⟩
def aHT:GF 25 [.tmp 4] .shut Tryz.f169:=⟨_,by conv=>lhs;cbv⟩
def aOI:GF 46 [.tmp 2] .shut Tryz.f178:=⟨_,by conv=>lhs;cbv⟩
def aRJ:GF 61 [.tmp 4] .shut Tryz.f184 (kpL aL [] [[0,1],[0,3],[0,3,5],[0,3,5,20,21,22],[0,3,5,20,21,22],[0,3,5,7,20,21,22],[0,3,5,7,20,21,22],[0,3,5,7,20,21,22],[0,3,5,20,21,22],[0,3,5]]):=⟨_,by conv=>lhs;reduce⟩
def aTS:GF 4 [.tmp 2] .shut Tryz.f188:=⟨_,by conv=>lhs;cbv⟩
def KV:GF 63 [] .pass Tryz.f200:=⟨_,by conv=>lhs;cbv⟩
def CH:Got (lpM KV.m 0):=⟨_,by conv=>lhs;cbv⟩
def UE:M:=CH.m
theorem aIs:UL UE CH.m:=ul
def E5:Got (lpM KV.m 1):=⟨_,by conv=>lhs;cbv⟩
def O2:M:=E5.m
theorem aLn:UL O2 E5.m:=ul
def D3:Got (lpM KV.m 2):=⟨_,by conv=>lhs;cbv⟩
def PJ:M:=D3.m
theorem aJt:UL PJ D3.m:=ul
def aJD:GF 16 [] .pass Tryz.f203:=⟨_,by conv=>lhs;cbv⟩
def aKB:GF 34 [] .pass Tryz.f211 (kpL aL [] [[0,1],[0,1],[0,1]]):=⟨_,by conv=>lhs;reduce⟩
def aOR:GF 17 [] .pass Tryz.f214:=⟨_,by conv=>lhs;cbv⟩
def aDQ:GF 20 [.tmp 3] .pass Tryz.f219:=⟨_,by conv=>lhs;cbv⟩
def CQ:Got (lpM aDQ.m 0):=⟨_,by conv=>lhs;cbv⟩
def DB:M:=CQ.m
theorem aF7:UL DB CQ.m:=ul
def aKx:GF 6 [.tmp 2] .shut Tryz.f225:=⟨_,by conv=>lhs;cbv⟩
def aLc:GF 3 [.tmp 2] .pass Tryz.f239:=⟨_,by conv=>lhs;cbv⟩
def aIC:GF 30 [.tmp 2] .pass Tryz.f240 (kpL aL [] [[0],[0],[]]):=⟨_,by conv=>lhs;reduce⟩
def aHe:GF 23 [.tmp 2] .pass Tryz.f241 (kpL aL [] [[0],[0],[0,3,4],[0,3],[]]):=⟨_,by conv=>lhs;reduce⟩
def aLt:GF 23 [.cell 6 124,.tmp 7] .shut Tryz.f248:=⟨_,by conv=>lhs;cbv⟩
def aE5:GF 71 [.cell 6 120] .norm Tryz.f256 (kpL aL [] [[0,1,2],[0,4,5,6],[0,5,6,7],[6,7],[6,7,8],[6,7,8],[6,7,8],[6,7],[0,5,6,7],[0,5,6,7],[0,5,6,7],[5,6,7],[5,6,7],[6,7],[6,7],[6,7]]):=⟨_,by conv=>lhs;reduce⟩
def aJV:GF 22 [.tmp 4,.tmp 5] .shut Tryz.f261:=⟨_,by conv=>lhs;cbv⟩
def aLd:GF 35 [.tmp 2] .shut Tryz.f270:=⟨_,by conv=>lhs;cbv⟩
def aUT:GF 8 [.tmp 4] .shut Tryz.f275:=⟨_,by conv=>lhs;cbv⟩
def aSX:GF 9 [.tmp 4] .shut Tryz.f278:=⟨_,by conv=>lhs;cbv⟩
def aIc:GF 4 [.tmp 2] .pass Tryz.f280:=⟨_,by conv=>lhs;cbv⟩
def XP:GF 27 [.cell 2 424,.cell 3 3,.cell 4 48] .shut Tryz.f291 (kpL aL [2,3,4] [[0],[0,2,3,4],[2,3,4],[0,2,3,4],[2,3,4,5],[2,3,4,15,16],[2,3,4,6,16],[2,3,4,6,7],[2,3,4,6,7],[2,6],[2,3,4]]):=⟨_,by conv=>lhs;reduce⟩
def CL:Got (lpM XP.m 0):=⟨_,by conv=>lhs;cbv⟩
def p7:M:=CL.m
theorem aEv:UL p7 CL.m:=ul
def EY:Got (lpM XP.m 1):=⟨_,by conv=>lhs;cbv⟩
def qI:M:=EY.m
theorem aEz:UL qI EY.m:=ul
def aDE:GF 141 [.tmp 8] .pass Tryz.f295:=⟨_,by conv=>lhs;cbv⟩
def EK:Got (lpM aDE.m 0):=⟨_,by conv=>lhs;cbv⟩
def FX:M:=EK.m
theorem aFB:UL FX EK.m:=ul
def aKF:GF 23 [.tmp 6] .shut Tryz.f299:=⟨_,by conv=>lhs;cbv⟩
def aJT:GF 17 [.tmp 4] .pass Tryz.f305:=⟨_,by conv=>lhs;cbv⟩
def aGe:GF 5 [] .pass Tryz.f307:=⟨_,by conv=>lhs;cbv⟩
def aFW:GF 11 [] .pass Tryz.f314:=⟨_,by conv=>lhs;cbv⟩
def aIg:GF 20 [] .pass Tryz.f320:=⟨_,by conv=>lhs;cbv⟩
def aSF:GF 14 [.tmp 2] .shut Tryz.f325:=⟨_,by conv=>lhs;cbv⟩
def aJB:GF 13 [.tmp 3] .pass Tryz.f327:=⟨_,by conv=>lhs;cbv⟩
def XZ:GF 53 [] .pass Tryz.f328 (kpL aL [] [[0,1,2,3],[0,1,2,3,8],[0,1,2,3,8],[0,1,2,3,8],[0,1,2,3,8,9],[0,1,2,3,8,9],[0,1,2,3,8,9]]):=⟨_,by conv=>lhs;reduce⟩
def EN:Got (lpM XZ.m 0):=⟨_,by conv=>lhs;cbv⟩
def Q6:M:=EN.m
theorem aIq:UL Q6 EN.m:=ul
def FU:Got (lpM XZ.m 1):=⟨_,by conv=>lhs;cbv⟩
def QW:M:=FU.m
theorem aFA:UL QW FU.m:=ul
def aEC:GF 22 [.tmp 2] .shut Tryz.f333:=⟨_,by conv=>lhs;cbv⟩
def aKh:GF 16 [.tmp 2] .shut Tryz.f334:=⟨_,by conv=>lhs;cbv⟩
def aG8:GF 9 [.tmp 1] .pass Tryz.f337 (kpL aL [] [[0],[0]]):=⟨_,by conv=>lhs;reduce⟩
def aLo:GF 8 [.tmp 1] .pass Tryz.f339:=⟨_,by conv=>lhs;cbv⟩
def aER:GF 15 [.tmp 4] .pass Tryz.f341:=⟨_,by conv=>lhs;cbv⟩
def aH8:GF 11 [.tmp 2] .shut Tryz.f343:=⟨_,by conv=>lhs;cbv⟩
def aJP:GF 26 [.tmp 1] .pass Tryz.f346 (kpL aL [] [[0],[0]]):=⟨_,by conv=>lhs;reduce⟩
def aUr:GF 45 [.cell 4 128] .shut Tryz.f347 (kpL aL [] [[0,1],[1,2,4],[1,2,4,8,9],[1,2,4,8,9],[1,2,4,5,8,9],[1,2,4,5],[1,2,4,8,9],[1,2,4],[2,4]]):=⟨_,by conv=>lhs;reduce⟩
def aOO:GF 3 [] .pass Tryz.f354:=⟨_,by conv=>lhs;cbv⟩
def aFp:GF 15 [] .pass Tryz.f356:=⟨_,by conv=>lhs;cbv⟩
def aFa:GF 13 [] .pass Tryz.f359 (kpL aL [] [[0]]):=⟨_,by conv=>lhs;reduce⟩
def aKO:GF 21 [] .pass Tryz.f360 (kpL aL [] [[0]]):=⟨_,by conv=>lhs;reduce⟩
def aHs:GF 8 [] .pass Tryz.f363:=⟨_,by conv=>lhs;cbv⟩
def aK1:GF 92 [] .pass Tryz.f364 (kpL aL [] [[0],[0,2],[0,2],[0,2,3],[0,2,3,4],[0,2,3,4],[0,2,3,4],[0,2,3,4]]):=⟨_,by conv=>lhs;reduce⟩
def aGS:GF 26 [.cell 6 133] .shut Tryz.f368:=⟨_,by conv=>lhs;cbv⟩
def aHX:GF 26 [.cell 4 59] .shut Tryz.f373 (kpL aL [] [[0,1],[1,2,4],[1,2,4,5,6],[2,4],[1,2,4,5]]):=⟨_,by conv=>lhs;reduce⟩
def aGa:GF 27 [.tmp 4] .shut Tryz.f383:=⟨_,by conv=>lhs;cbv⟩
def aFm:GF 28 [.cell 4 128] .shut Tryz.f385 (kpL aL [] [[0,1],[1,2,4],[2,4],[1,2,4]]):=⟨_,by conv=>lhs;reduce⟩
def aRz:GF 38 [] .pass Tryz.f387 (kpL aL [] [[0,1,2,3],[0,1,2,3,10],[0,1,2,3,10],[0,1,2,3,10]]):=⟨_,by conv=>lhs;reduce⟩
def aI7:GF 18 [.tmp 2] .pass Tryz.f389 (kpL aL [] [[0],[0]]):=⟨_,by conv=>lhs;reduce⟩
def V6:GF 47 [.tmp 2,.tmp 3] .shut Tryz.f392:=⟨_,by conv=>lhs;cbv⟩
def aGr:GF 15 [.cell 4 59] .shut Tryz.f393:=⟨_,by conv=>lhs;cbv⟩
def aKA:GF 46 [.tmp 2] .pass Tryz.f396 (kpL aL [] [[0],[0],[0,3],[0,3,4],[3],[3]]):=⟨_,by conv=>lhs;reduce⟩
def ZU:GF 29 [.tmp 2] .pass Tryz.f398:=⟨_,by conv=>lhs;cbv⟩
def C5:Got (lpM ZU.m 0):=⟨_,by conv=>lhs;cbv⟩
def TJ:M:=C5.m
theorem aGg:UL TJ C5.m:=ul
