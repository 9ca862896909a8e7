/- The evaluator's context: types and bodies, and that they are the program's. Printed by wip/ev/gen/ctx.py. -/
import Derived.Test.YtcgigdeehcmdkaaGreatDoorK10
set_option linter.all false
namespace Go.Proofs.YtcgigdeehcmdkaaGreatDoor.Ev
open Go Go.RowKit
set_option maxRecDepth 100000
def g11:GF 36 [.tmp 4] .norm Tryz.f11 (kpL aL [5,6] [[0,1],[2,3,4],[],[2,3,4],[4,5],[4,5,6],[5,6,19],[5,6,7],[6,7,9],[6,7],[6,7,26],[6,7,26],[6,7,26],[6]]):=⟨_,by conv=>lhs;reduce⟩
def KV:Got (lpM g11.m 0):=⟨_,by conv=>lhs;cbv⟩
def tQ:M:=KV.m
theorem aRw:UL tQ KV.m:=ul
def JM:Got (lpM g11.m 1):=⟨_,by conv=>lhs;cbv⟩
def tM:M:=JM.m
theorem aMZ:UL tM JM.m:=ul
def g20:GF 18 [.tmp 4] .shut Tryz.f20:=⟨_,by conv=>lhs;cbv⟩
def JR:Got (lpM g20.m 0):=⟨_,by conv=>lhs;cbv⟩
def YR:M:=JR.m
theorem aN4:UL YR JR.m:=ul
def g22:GF 118 [.tmp 4,.tmp 5] .shut Tryz.f22 (kpL aL [] [[0,1],[1,2],[6,7],[7],[6],[6,8],[6,8,9],[9],[6,8],[6,8,10],[6,10,39,40,41],[6,10,39,40,41],[6,10,12,39,40,41],[6,10,39,40,41],[6,10],[6,10,13],[6,10,13,14],[6,10,13,14,65,66],[6,10,13,14,65,66],[6,10,13,14,15,65,66],[6,10,13,14,15,65,66],[6,10,13,14,15,65,66],[6,10,13,14,65,66],[6,10,13,14],[6,10,13,14,16],[6,10,13,14,16],[6,10,13,14,16],[6,10,13,14,16,92,93,94],[6,10,13,14,16,92,93,94],[6,10,13,14,16,18,92,93,94],[6,10,13,14,16,18,92,93,94],[6,10,13,14,16,18,92,93,94],[6,10,13,14,16,92,93,94],[6,14]]):=⟨_,by conv=>lhs;reduce⟩
def g38:GF 25 [.tmp 4] .shut Tryz.f38 (kpL aL [7] [[0,1],[1,2,4],[1,4,5,6],[],[1,4,5],[1,4,5,7],[7,19],[7,8],[7]]):=⟨_,by conv=>lhs;reduce⟩
def g42:GF 26 [.tmp 4] .pass Tryz.f42:=⟨_,by conv=>lhs;cbv⟩
def g44:GF 29 [.tmp 4,.tmp 5] .pass Tryz.f44 (kpL aL [] [[0,1],[0,3],[],[0,3],[3,6,7],[],[3,6]]):=⟨_,by conv=>lhs;reduce⟩
def g46:GF 6 [.cell 0 149] .shut Tryz.f46:=⟨_,by conv=>lhs;cbv⟩
def g48:GF 34 [.tmp 4] .shut Tryz.f48 (kpL aL [] [[0,1],[2,3],[],[2,3],[2,3,5],[2,3,5,16,17,18],[2,3,5,16,17,18],[2,3,5,6,7,16,17,18],[],[2,3,5,16,17,18],[3]]):=⟨_,by conv=>lhs;reduce⟩
def g49:GF 61 [.tmp 4] .shut Tryz.f49:=⟨_,by conv=>lhs;cbv⟩
def g56:GF 69 [.tmp 2] .pass Tryz.f56:=⟨_,by conv=>lhs;cbv⟩
def IQ:Got (lpM g56.m 0):=⟨_,by conv=>lhs;cbv⟩
def YS:M:=IQ.m
theorem aMN:UL YS IQ.m:=ul
def g72:GF 18 [.tmp 2] .shut Tryz.f72:=⟨_,by conv=>lhs;cbv⟩
def g75:GF 32 [.cell 4 133,.tmp 5] .shut Tryz.f75:=⟨_,by conv=>lhs;cbv⟩
def g78:GF 6 [.tmp 4] .pass Tryz.f78:=⟨_,by conv=>lhs;cbv⟩
def g81:GF 46 [.tmp 4,.tmp 5] .pass Tryz.f81 (kpL aL [] [[0,1],[2,3],[2,6],[2,6,7],[2,6,7,28],[2,6,7],[2,6,7,28],[2,6,7],[2,6,7],[]]):=⟨_,by conv=>lhs;reduce⟩
def g86:GF 96 [] .pass Tryz.f86 (kpL aL [] [[0,1],[0,1,3],[0,1,3,20,21],[0,1,3,20,21],[0,1,3,5,20,21],[0,1,3,5,20,21,24,25],[0,1,3,5,20,21,24,25],[0,1,3,5,6,20,21,24,25],[0,1,3,5,20,21,24,25],[0,1,3,20,21],[0,1,3],[0,1,36,37],[0,1,36,37],[0,1,7,36,37],[0,1,7,36,37,46,47],[0,1,7,36,37,46,47],[0,1,7,8,36,37,46,47],[0,1,7,36,37,46,47],[0,1,36,37],[0,1],[0,1,9],[0,1,9,69,70,71],[0,1,9,69,70,71],[0,1,9,11,69,70,71],[0,1,9,12,69,70,71],[0,1,9,12,69,70,71],[0,1,9,12,69,70,71],[0,1,9,69,70,71]]):=⟨_,by conv=>lhs;reduce⟩
def ID:Got (lpM g86.m 1):=⟨_,by conv=>lhs;cbv⟩
def aBO:M:=ID.m
theorem aP2:UL aBO ID.m:=ul
def J9:Got (lpM g86.m 2):=⟨_,by conv=>lhs;cbv⟩
def aAr:M:=J9.m
theorem aMD:UL aAr J9.m:=ul
def KB:Got (lpM g86.m 3):=⟨_,by conv=>lhs;cbv⟩
def aB1:M:=KB.m
theorem aNg:UL aB1 KB.m:=ul
def LK:Got (lpM g86.m 4):=⟨_,by conv=>lhs;cbv⟩
def aAn:M:=LK.m
theorem aNK:UL aAn LK.m:=ul
def g90:GF 19 [.tmp 4] .shut Tryz.f90:=⟨_,by conv=>lhs;cbv⟩
def g96:GF 80 [.tmp 2] .shut Tryz.f96:=⟨_,by conv=>lhs;cbv⟩
def aFr:GF 8 [.tmp 2] .pass Tryz.f103:=⟨_,by conv=>lhs;cbv⟩
def aED:GF 25 [.tmp 5] .shut Tryz.f110 (kpL aL [] [[0,1,2],[2,3,4],[2,3,4],[6,7],[3,4],[],[3,4],[],[]]):=⟨_,by conv=>lhs;reduce⟩
def aEC:GF 16 [] .pass Tryz.f117:=⟨_,by conv=>lhs;cbv⟩
def aEV:GF 5 [] .pass Tryz.f118:=⟨_,by conv=>lhs;cbv⟩
def aCO:GF 41 [] .pass Tryz.f119 (kpL aL [] [[0,1],[1,2],[1,2],[1,2]]):=⟨_,by conv=>lhs;reduce⟩
def ZS:GF 68 [] .pass Tryz.f122 (kpL aL [] [[0,1],[0,1],[0,1,23],[0,1,23],[0,1,4,23],[0,1,23],[0,1],[0,1]]):=⟨_,by conv=>lhs;reduce⟩
def DI:Got (lpM ZS.m 0):=⟨_,by conv=>lhs;cbv⟩
def O3:M:=DI.m
theorem aDA:UL O3 DI.m:=ul
def aGY:GF 9 [] .pass Tryz.f125:=⟨_,by conv=>lhs;cbv⟩
def aK3:GF 10 [.tmp 2] .shut Tryz.f127:=⟨_,by conv=>lhs;cbv⟩
def aL5:GF 41 [] .pass Tryz.f128:=⟨_,by conv=>lhs;cbv⟩
def aLq:GF 60 [] .pass Tryz.f130:=⟨_,by conv=>lhs;cbv⟩
def aH2:GF 27 [.tmp 4] .pass Tryz.f150 (kpL aL [] [[0,1],[1,2],[1,2],[1,2]]):=⟨_,by conv=>lhs;reduce⟩
def aC5:GF 20 [] .pass Tryz.f152 (kpL aL [] [[0,1,2],[0,1,2,4],[0,1,2,4],[0,1,2,4]]):=⟨_,by conv=>lhs;reduce⟩
def aEY:GF 56 [.cell 4 131] .shut Tryz.f158 (kpL aL [] [[0,1],[0,3,4],[4],[0,3,4],[3,4,5],[3,4,5,19],[4,5],[3,4,5,19],[3,4,5,19],[3,4,5,19],[3,4,5],[3,4,5,19],[3,4,5],[4]]):=⟨_,by conv=>lhs;reduce⟩
def aIo:GF 12 [.tmp 10] .pass Tryz.f161:=⟨_,by conv=>lhs;cbv⟩
def aLM:GF 67 [.tmp 2] .shut Tryz.f177:=⟨_,by conv=>lhs;cbv⟩
def aKR:GF 12 [.tmp 2] .shut Tryz.f181:=⟨_,by conv=>lhs;cbv⟩
def aPv:GF 10 [.tmp 2] .shut Tryz.f182:=⟨_,by conv=>lhs;cbv⟩
def aII:GF 45 [.tmp 4] .shut Tryz.f183 (kpL aL [6] [[0,1],[1,2,4],[],[1,2,4],[2,4,5],[5],[2,4,5],[2,5],[2,4,5],[2,4,5,6],[6,36],[6,7],[5,6]]):=⟨_,by conv=>lhs;reduce⟩
def aP8:GF 25 [.tmp 4] .shut Tryz.f185 (kpL aL [] [[0,1],[0,3],[0,3,5]]):=⟨_,by conv=>lhs;reduce⟩
def aCn:GF 29 [.tmp 6,.tmp 7,.tmp 8] .shut Tryz.f189 (kpL aL [] [[0,1,2],[2,3,4],[],[2,3,4],[2,4,9],[2,4,6,9],[6,7,8]]):=⟨_,by conv=>lhs;reduce⟩
def aLK:GF 10 [.tmp 4] .shut Tryz.f197:=⟨_,by conv=>lhs;cbv⟩
def aDe:GF 20 [.tmp 4] .shut Tryz.f198:=⟨_,by conv=>lhs;cbv⟩
def aDB:GF 27 [.tmp 4] .pass Tryz.f199:=⟨_,by conv=>lhs;cbv⟩
def aI5:GF 16 [] .pass Tryz.f206:=⟨_,by conv=>lhs;cbv⟩
def aNi:GF 22 [] .pass Tryz.f212 (kpL aL [] [[0,1,2,3,4]]):=⟨_,by conv=>lhs;reduce⟩
def aK5:GF 28 [] .pass Tryz.f216 (kpL aL [] [[0],[0,2,3],[0,2,3],[0,2,3]]):=⟨_,by conv=>lhs;reduce⟩
def aDm:GF 7 [.tmp 1] .pass Tryz.f220:=⟨_,by conv=>lhs;cbv⟩
def aID:GF 4 [.tmp 1] .pass Tryz.f222:=⟨_,by conv=>lhs;cbv⟩
def aAQ:GF 56 [.tmp 2] .pass Tryz.f223 (kpL aL [] [[0],[0],[],[0],[0,35,36,37],[0,35,36,37],[0,3,4,35,36,37],[],[0,35,36,37],[]]):=⟨_,by conv=>lhs;reduce⟩
def C1:Got (lpM aAQ.m 0):=⟨_,by conv=>lhs;cbv⟩
def QL:M:=C1.m
theorem aFV:UL QL C1.m:=ul
def aGo:GF 11 [.tmp 3] .pass Tryz.f227:=⟨_,by conv=>lhs;cbv⟩
def UM:GF 43 [.tmp 4] .shut Tryz.f228:=⟨_,by conv=>lhs;cbv⟩
def DU:Got (lpM UM.m 0):=⟨_,by conv=>lhs;cbv⟩
def QU:M:=DU.m
theorem aFf:UL QU DU.m:=ul
def B1:Got (lpM UM.m 1):=⟨_,by conv=>lhs;cbv⟩
def PE:M:=B1.m
theorem aCZ:UL PE B1.m:=ul
def aGu:GF 17 [.tmp 1] .pass Tryz.f230 (kpL aL [] [[0],[0]]):=⟨_,by conv=>lhs;reduce⟩
def aMY:GF 2 [.cell 0 285] .shut Tryz.f233:=⟨_,by conv=>lhs;cbv⟩
def aIW:GF 12 [.tmp 4] .shut Tryz.f246:=⟨_,by conv=>lhs;cbv⟩
def aCV:GF 18 [.tmp 10] .pass Tryz.f254:=⟨_,by conv=>lhs;cbv⟩
def ZX:GF 62 [] .pass Tryz.f255 (kpL aL [] [[0,1,2,3,4],[1,2,3,4],[1,2,4],[1,2,4,26,27,28],[1,2,4,26,27,28],[1,2,4,6,26,27,28],[1,2,4,26,27,28],[1,4]]):=⟨_,by conv=>lhs;reduce⟩
def C3:Got (lpM ZX.m 0):=⟨_,by conv=>lhs;cbv⟩
def B2:M:=C3.m
theorem aF8:UL B2 C3.m:=ul
def aG7:GF 52 [.cell 4 124,.tmp 5,.tmp 6] .shut Tryz.f258 (kpL aL [] [[0,1],[2,3,4],[2,3,4,8],[2,4],[2,3,4,8],[2,4],[2,3,4,8],[2,4],[2,3,4,8],[2,4],[2,3,4,8],[2,3,4,8],[2,3,4],[2,3,4],[2,3,4],[2,4,8],[2,4],[2,4],[2,4],[2,4],[2,4]]):=⟨_,by conv=>lhs;reduce⟩
def aIz:GF 10 [.tmp 2] .shut Tryz.f262:=⟨_,by conv=>lhs;cbv⟩
def aCi:GF 22 [] .pass Tryz.f263:=⟨_,by conv=>lhs;cbv⟩
def EG:Got (lpM aCi.m 0):=⟨_,by conv=>lhs;cbv⟩
def fL:M:=EG.m
theorem aGV:UL fL EG.m:=ul
def ZI:GF 40 [] .pass Tryz.f264 (kpL aL [] [[0,1,2],[0,1,2,4],[0,2,4,9,10,11],[0,2,4,9,10,11],[0,2,4,5,6,9,10,11],[0,2,4,5,7,9,10,11],[0,2,4,5,7,9,10,11],[0,2,4,9,10,11]]):=⟨_,by conv=>lhs;reduce⟩
def BF:Got (lpM ZI.m 0):=⟨_,by conv=>lhs;cbv⟩
def CM:M:=BF.m
theorem aEs:UL CM BF.m:=ul
def aFe:GF 10 [.tmp 4] .shut Tryz.f265:=⟨_,by conv=>lhs;cbv⟩
def aNW:GF 6 [.tmp 2] .shut Tryz.f269:=⟨_,by conv=>lhs;cbv⟩
def aOJ:GF 24 [.tmp 3] .shut Tryz.f274:=⟨_,by conv=>lhs;cbv⟩
def aKu:GF 8 [.tmp 3] .shut Tryz.f277:=⟨_,by conv=>lhs;cbv⟩
def aQb:GF 9 [.tmp 4] .shut Tryz.f278:=⟨_,by conv=>lhs;cbv⟩
def SF:GF 22 [.cell 8 3,.cell 9 4] .pass Tryz.f279 (kpL aL [7,8,9] [[0,1,2,3],[1,2,4,7,8,9],[7,8,9,16,17],[7,8,9,10,17],[7,8,9,10,11],[8,9,10],[8,9]]):=⟨_,by conv=>lhs;reduce⟩
def DE:Got (lpM SF.m 0):=⟨_,by conv=>lhs;cbv⟩
def kS:M:=DE.m
theorem aEB:UL kS DE.m:=ul
def C5:Got (lpM SF.m 1):=⟨_,by conv=>lhs;cbv⟩
def kQ:M:=C5.m
theorem aHR:UL kQ C5.m:=ul
def aHp:GF 6 [.tmp 2] .shut Tryz.f284:=⟨_,by conv=>lhs;cbv⟩
def BP:GF 220 [] .pass Tryz.f286 (kpL aL [] [[0,1,2,3,4],[0,1,2,3,4],[0,1,3,4,10],[0,1,4,10,11],[0,1,4,10,11],[0,1,4,10,11,12],[0,1,4,11,12],[0,1,4,10,12],[0,1,10],[0,10,13],[0,10,13],[0,10,13],[0,1,2,3,4],[0,1,2,4],[0,2,4,14],[0,2,4,14,15],[0,2,4,14,15],[0,2,4,14,15,16],[0,2,4,15,16],[0,2,4,14,16],[0,2,14],[0,14,17],[0,14,17],[0,14,17],[0,1,2,3,4],[0,1,2,3,4,18],[0,1,2,3,4,18,19],[0,1,2,3,4,18,19],[0,1,2,3,4,18,19],[0,1,2,3,4,18,19,20],[0,1,2,3,4,18,19],[0,1,2,3,4,18,19,20],[0,1,2,3,4,18,19,20,21],[0,1,2,3,4,18,19,20,21,22],[0,1,2,3,4,18,19,20,21,22],[0,1,2,3,4,18,19,20,21,22,23],[0,1,2,3,4,18,19,21,22,23],[0,1,2,3,4,18,19,20,22,23],[0,1,2,3,4,18,19,20],[0,1,2,3,4,18,20,24],[0,1,2,3,4,18,20,24],[0,1,3,4,18,20,24],[0,1,3,4,18,20,24],[0,3,4,18,24],[0,3,4,18,24]]):=⟨_,by conv=>lhs;reduce⟩
def EQ:Got (lpM BP.m 0):=⟨_,by conv=>lhs;cbv⟩
def MM:M:=EQ.m
theorem aDp:UL MM EQ.m:=ul
def EE:Got (lpM BP.m 1):=⟨_,by conv=>lhs;cbv⟩
def RG:M:=EE.m
theorem aCs:UL RG EE.m:=ul
def BL:Got (lpM BP.m 2):=⟨_,by conv=>lhs;cbv⟩
def R6:M:=BL.m
theorem aC6:UL R6 BL.m:=ul
def D3:Got (lpM BP.m 3):=⟨_,by conv=>lhs;cbv⟩
def RV:M:=D3.m
theorem aGy:UL RV D3.m:=ul
def EU:Got (lpM BP.m 4):=⟨_,by conv=>lhs;cbv⟩
def PV:M:=EU.m
theorem aI1:UL PV EU.m:=ul
def aDU:GF 8 [.tmp 6] .pass Tryz.f300:=⟨_,by conv=>lhs;cbv⟩
def aFU:GF 20 [] .pass Tryz.f309 (kpL aL [] [[0]]):=⟨_,by conv=>lhs;reduce⟩
def aFs:GF 11 [] .pass Tryz.f314:=⟨_,by conv=>lhs;cbv⟩
def aGM:GF 17 [] .pass Tryz.f316 (kpL aL [] [[0]]):=⟨_,by conv=>lhs;reduce⟩
def aBB:GF 37 [.tmp 2] .shut Tryz.f323:=⟨_,by conv=>lhs;cbv⟩
def CJ:Got (lpM aBB.m 0):=⟨_,by conv=>lhs;cbv⟩
def EO:M:=CJ.m
theorem aHo:UL EO CJ.m:=ul
def aHI:GF 15 [] .pass Tryz.f324:=⟨_,by conv=>lhs;cbv⟩
def aA5:GF 58 [] .pass Tryz.f330:=⟨_,by conv=>lhs;cbv⟩
def B7:Got (lpM aA5.m 0):=⟨_,by conv=>lhs;cbv⟩
def RR:M:=B7.m
theorem aDD:UL RR B7.m:=ul
def aGk:GF 4 [.tmp 2] .pass Tryz.f331:=⟨_,by conv=>lhs;cbv⟩
def aB5:GF 19 [.tmp 4] .shut Tryz.f335:=⟨_,by conv=>lhs;cbv⟩
def B4:Got (lpM aB5.m 0):=⟨_,by conv=>lhs;cbv⟩
def QD:M:=B4.m
theorem aFX:UL QD B4.m:=ul
def aEO:GF 18 [.tmp 1] .pass Tryz.f340 (kpL aL [] [[0],[0]]):=⟨_,by conv=>lhs;reduce⟩
def aIa:GF 15 [.tmp 4] .pass Tryz.f341:=⟨_,by conv=>lhs;cbv⟩
def aDX:GF 16 [.tmp 1] .pass Tryz.f342:=⟨_,by conv=>lhs;cbv⟩
def aCm:GF 64 [.tmp 2] .pass Tryz.f344:=⟨_,by conv=>lhs;cbv⟩
def aA8:GF 25 [] .pass Tryz.f353 (kpL aL [] [[0,1,2,3],[0,2,3,8,9],[0,2,3,8,9],[0,2,3,5,8,9],[0,2,3,8,9]]):=⟨_,by conv=>lhs;reduce⟩
def DN:Got (lpM aA8.m 0):=⟨_,by conv=>lhs;cbv⟩
def oA:M:=DN.m
theorem aCI:UL oA DN.m:=ul
def aFm:GF 13 [] .pass Tryz.f361 (kpL aL [] [[0]]):=⟨_,by conv=>lhs;reduce⟩
def aFE:GF 8 [] .pass Tryz.f363:=⟨_,by conv=>lhs;cbv⟩
def aG8:GF 5 [] .pass Tryz.f365:=⟨_,by conv=>lhs;cbv⟩
def aDx:GF 34 [] .pass Tryz.f371 (kpL aL [] [[0,1],[0,6,7,8],[0,6,7,8],[0,5,6,7,8],[0,5,6,7,8],[0,6,7,8]]):=⟨_,by conv=>lhs;reduce⟩
def aFT:GF 21 [.tmp 6] .shut Tryz.f382:=⟨_,by conv=>lhs;cbv⟩
def aFv:GF 27 [.tmp 4] .shut Tryz.f383:=⟨_,by conv=>lhs;cbv⟩
def aSq:GF 38 [] .pass Tryz.f387 (kpL aL [] [[0,1,2,3],[0,1,2,3,10],[0,1,2,3,10],[0,1,2,3,10]]):=⟨_,by conv=>lhs;reduce⟩
def aGU:GF 51 [.cell 2 429] .pass Tryz.f390 (kpL aL [] [[0],[0,2],[0,2,3,4],[0,2,3,4,17],[0,2],[0,2,3,4,17],[0,2],[0,2,3,4],[0,2,3,4,5],[0,2,3,5]]):=⟨_,by conv=>lhs;reduce⟩
def aCM:GF 15 [.cell 4 59] .shut Tryz.f393:=⟨_,by conv=>lhs;cbv⟩
def aIt:GF 39 [.cell 4 59] .shut Tryz.f394:=⟨_,by conv=>lhs;cbv⟩
def YX:GF 28 [.tmp 2] .pass Tryz.f397:=⟨_,by conv=>lhs;cbv⟩
def BG:Got (lpM YX.m 0):=⟨_,by conv=>lhs;cbv⟩
def MG:M:=BG.m
theorem aIO:UL MG BG.m:=ul
