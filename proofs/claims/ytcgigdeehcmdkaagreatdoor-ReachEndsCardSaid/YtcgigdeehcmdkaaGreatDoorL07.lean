/- The evaluator's context: types and bodies, and that they are the program's. Printed by wip/ev/gen/ctx.py. -/
import Derived.Test.YtcgigdeehcmdkaaGreatDoorL06
set_option linter.all false
namespace Go.Proofs.YtcgigdeehcmdkaaGreatDoor.Ev
open Go Go.RowKit
set_option maxRecDepth 100000
def g5:GF 80 [.tmp 2] .shut Tryz.f5 (kpL aL [] [[0],[1],[],[1],[],[1],[1,3,4],[1,3,4,5,6],[4,5,6],[1,3,5],[1,3,5,7],[1,3,5,7,8],[1,3,5,7,8,9],[1,3,5,7,8],[1,3,5,7,8,9],[1,3,5,7,8,9,10],[1,3,5,7,8,9,10],[1,3,5,7,8,9,10],[1,3,5,7,8,10],[1,3,5,7,8,10],[3,5,8]]):=⟨_,by conv=>lhs;reduce⟩
def aAW:Got (lpM g5.m 0):=⟨_,by conv=>lhs;cbv⟩
def aMA:M:=aAW.m
theorem aX6:UL aMA aAW.m:=ul
def aBL:Got (lpM g5.m 1):=⟨_,by conv=>lhs;cbv⟩
def aMr:M:=aBL.m
theorem aW6:UL aMr aBL.m:=ul
def g7:GF 109 [.tmp 0] .shut Tryz.f7:=⟨_,by conv=>lhs;cbv⟩
def g8:GF 7 [.tmp 2] .shut Tryz.f8:=⟨_,by conv=>lhs;cbv⟩
def g17:GF 43 [.tmp 4,.tmp 5] .shut Tryz.f17:=⟨_,by conv=>lhs;cbv⟩
def MO:Got (lpM g17.m 0):=⟨_,by conv=>lhs;cbv⟩
def aDF:M:=MO.m
theorem aQR:UL aDF MO.m:=ul
def g20:GF 18 [.tmp 4] .shut Tryz.f20:=⟨_,by conv=>lhs;cbv⟩
def MN:Got (lpM g20.m 0):=⟨_,by conv=>lhs;cbv⟩
def aAf:M:=MN.m
theorem aNY:UL aAf MN.m:=ul
def g28:GF 45 [.tmp 4] .shut Tryz.f28:=⟨_,by conv=>lhs;cbv⟩
def NJ:Got (lpM g28.m 0):=⟨_,by conv=>lhs;cbv⟩
def aDs:M:=NJ.m
theorem aQL:UL aDs NJ.m:=ul
def g33:GF 77 [.cell 6 4,.cell 7 48] .pass Tryz.f33 (kpL aL [3,4,5,6,7] [[0,1,2],[3,4,5,6,7],[3,4,5,6,7],[3,4,5,6,7],[3,4,5,6,7,26,27],[3,4,5,6,7,8,27],[3,4,5,6,7,8,9],[3,4,5,6,7,8,9],[3,4,5,6,7,8,9],[3,4,5,6,7,8],[6,7],[3,4,5,6,7,8,9],[3,5,6,7,10,11,12],[6,7,12],[3,5,6,7,10,11],[6,7],[6,7]]):=⟨_,by conv=>lhs;reduce⟩
def g36:GF 17 [.cell 4 133] .shut Tryz.f36:=⟨_,by conv=>lhs;cbv⟩
def g37:GF 16 [.tmp 2] .shut Tryz.f37:=⟨_,by conv=>lhs;cbv⟩
def g49:GF 61 [.tmp 4] .shut Tryz.f49:=⟨_,by conv=>lhs;cbv⟩
def MV:Got (lpM g49.m 0):=⟨_,by conv=>lhs;cbv⟩
def MH:M:=MV.m
theorem aRF:UL MH MV.m:=ul
def KL:Got (lpM g49.m 1):=⟨_,by conv=>lhs;cbv⟩
def Y1:M:=KL.m
theorem aOw:UL Y1 KL.m:=ul
def MU:Got (lpM g49.m 2):=⟨_,by conv=>lhs;cbv⟩
def aEe:M:=MU.m
theorem aQn:UL aEe MU.m:=ul
def g51:GF 36 [.cell 2 67] .pass Tryz.f51 (kpL aL [] [[0],[1,2],[1,2],[1,2,10,11],[1,2,10,11],[1,2,3,10,11],[1,2,10,11],[1,2],[1,2],[1,2]]):=⟨_,by conv=>lhs;reduce⟩
def MJ:Got (lpM g51.m 0):=⟨_,by conv=>lhs;cbv⟩
def aCp:M:=MJ.m
theorem aUw:UL aCp MJ.m:=ul
def g57:GF 11 [] .pass Tryz.f57:=⟨_,by conv=>lhs;cbv⟩
def g58:GF 35 [.tmp 4] .pass Tryz.f58 (kpL aL [] [[0,1],[0,1]]):=⟨_,by conv=>lhs;reduce⟩
def g59:GF 54 [.cell 2 42,.tmp 3] .shut Tryz.f59:=⟨_,by conv=>lhs;cbv⟩
def g60:GF 41 [.tmp 4] .shut Tryz.f60 (kpL aL [] [[0,1],[1,2],[1,5],[1,5,6],[1,5,6],[1,5,6],[1,5]]):=⟨_,by conv=>lhs;reduce⟩
def K6:Got (lpM g60.m 0):=⟨_,by conv=>lhs;cbv⟩
def aBC:M:=K6.m
theorem aSG:UL aBC K6.m:=ul
def g70:GF 78 [.tmp 8,.tmp 9,.tmp 10] .pass Tryz.f70 (kpL aL [] [[0,1,2,3],[0,2,5,7],[0,2,5,7,11],[0,2,5,7,11,12,13],[12],[0,2,5,7,11],[0,2,5,7,11,14],[],[0,2,5,7,11,14],[0,2,5,7,14],[14]]):=⟨_,by conv=>lhs;reduce⟩
def g71:GF 15 [.tmp 6] .shut Tryz.f71:=⟨_,by conv=>lhs;cbv⟩
def g74:GF 18 [.cell 2 4] .shut Tryz.f74 (kpL aL [1,2] [[0],[1,2],[2],[1,2],[1,2,9],[1,2,3],[2],[2]]):=⟨_,by conv=>lhs;reduce⟩
def LO:Got (lpM g74.m 0):=⟨_,by conv=>lhs;cbv⟩
def jZ:M:=LO.m
theorem aTI:UL jZ LO.m:=ul
def KA:Got (lpM g74.m 1):=⟨_,by conv=>lhs;cbv⟩
def jR:M:=KA.m
theorem aQi:UL jR KA.m:=ul
def g83:GF 47 [.tmp 4,.tmp 5] .pass Tryz.f83 (kpL aL [] [[0,1],[0,3],[0,3,6],[0,6,7,8,9,10]]):=⟨_,by conv=>lhs;reduce⟩
def g86:GF 96 [] .pass Tryz.f86 (kpL aL [] [[0,1],[0,1,3],[0,1,3,20,21],[0,1,3,20,21],[0,1,3,5,20,21],[0,1,3,5,20,21,24,25],[0,1,3,5,20,21,24,25],[0,1,3,5,6,20,21,24,25],[0,1,3,5,20,21,24,25],[0,1,3,20,21],[0,1,3],[0,1,36,37],[0,1,36,37],[0,1,7,36,37],[0,1,7,36,37,46,47],[0,1,7,36,37,46,47],[0,1,7,8,36,37,46,47],[0,1,7,36,37,46,47],[0,1,36,37],[0,1],[0,1,9],[0,1,9,69,70,71],[0,1,9,69,70,71],[0,1,9,11,69,70,71],[0,1,9,12,69,70,71],[0,1,9,12,69,70,71],[0,1,9,12,69,70,71],[0,1,9,69,70,71]]):=⟨_,by conv=>lhs;reduce⟩
def N7:Got (lpM g86.m 1):=⟨_,by conv=>lhs;cbv⟩
def aBg:M:=N7.m
theorem aNr:UL aBg N7.m:=ul
def J9:Got (lpM g86.m 2):=⟨_,by conv=>lhs;cbv⟩
def aBB:M:=J9.m
theorem aO2:UL aBB J9.m:=ul
def KX:Got (lpM g86.m 3):=⟨_,by conv=>lhs;cbv⟩
def aBc:M:=KX.m
theorem aTT:UL aBc KX.m:=ul
def NH:Got (lpM g86.m 4):=⟨_,by conv=>lhs;cbv⟩
def aA5:M:=NH.m
theorem aSW:UL aA5 NH.m:=ul
def g90:GF 19 [.tmp 4] .shut Tryz.f90:=⟨_,by conv=>lhs;cbv⟩
def g92:GF 42 [.tmp 4] .shut Tryz.f92:=⟨_,by conv=>lhs;cbv⟩
def g93:GF 46 [.tmp 2] .shut Tryz.f93:=⟨_,by conv=>lhs;cbv⟩
def aIp:GF 8 [.tmp 2] .pass Tryz.f105:=⟨_,by conv=>lhs;cbv⟩
def aKa:GF 36 [.tmp 2] .pass Tryz.f107:=⟨_,by conv=>lhs;cbv⟩
def aEA:GF 9 [.tmp 2] .shut Tryz.f108:=⟨_,by conv=>lhs;cbv⟩
def aJ6:GF 25 [.tmp 5] .shut Tryz.f110 (kpL aL [] [[0,1,2],[2,3,4],[2,3,4],[6,7],[3,4],[],[3,4],[],[]]):=⟨_,by conv=>lhs;reduce⟩
def aKQ:GF 5 [] .pass Tryz.f115:=⟨_,by conv=>lhs;cbv⟩
def aGZ:GF 16 [] .pass Tryz.f117:=⟨_,by conv=>lhs;cbv⟩
def aE2:GF 5 [] .pass Tryz.f118:=⟨_,by conv=>lhs;cbv⟩
def aCd:GF 68 [] .pass Tryz.f122 (kpL aL [] [[0,1],[0,1],[0,1,23],[0,1,23],[0,1,4,23],[0,1,23],[0,1],[0,1]]):=⟨_,by conv=>lhs;reduce⟩
def ED:Got (lpM aCd.m 0):=⟨_,by conv=>lhs;cbv⟩
def U5:M:=ED.m
theorem aG6:UL U5 ED.m:=ul
def aTd:GF 32 [.tmp 6] .shut Tryz.f136:=⟨_,by conv=>lhs;cbv⟩
def aKS:GF 18 [.tmp 2] .pass Tryz.f146:=⟨_,by conv=>lhs;cbv⟩
def aF8:GF 20 [] .pass Tryz.f152 (kpL aL [] [[0,1,2],[0,1,2,4],[0,1,2,4],[0,1,2,4]]):=⟨_,by conv=>lhs;reduce⟩
def aGU:GF 9 [.tmp 2] .shut Tryz.f154:=⟨_,by conv=>lhs;cbv⟩
def aH7:GF 44 [.cell 6 120] .norm Tryz.f156:=⟨_,by conv=>lhs;cbv⟩
def aLr:GF 56 [.cell 4 131] .shut Tryz.f158 (kpL aL [] [[0,1],[0,3,4],[4],[0,3,4],[3,4,5],[3,4,5,19],[4,5],[3,4,5,19],[3,4,5,19],[3,4,5,19],[3,4,5],[3,4,5,19],[3,4,5],[4]]):=⟨_,by conv=>lhs;reduce⟩
def aGY:GF 15 [.tmp 4] .pass Tryz.f164 (kpL aL [] [[0,1,2],[0,1,2]]):=⟨_,by conv=>lhs;reduce⟩
def aKz:GF 29 [.tmp 4,.cell 5 77,.tmp 6] .norm Tryz.f165 (kpL aL [] [[0,1],[0,1,5],[5],[0,1,5]]):=⟨_,by conv=>lhs;reduce⟩
def aJ3:GF 9 [.tmp 4] .norm Tryz.f172:=⟨_,by conv=>lhs;cbv⟩
def aQ1:GF 42 [.tmp 4] .shut Tryz.f176:=⟨_,by conv=>lhs;cbv⟩
def aP6:GF 50 [.tmp 2] .shut Tryz.f179 (kpL aL [] [[0],[1],[1,3],[1,3],[1,3],[1,3],[1,3],[1,3],[1,3],[1,3],[1,3]]):=⟨_,by conv=>lhs;reduce⟩
def aOM:GF 57 [.tmp 4] .shut Tryz.f180 (kpL aL [] [[0,1],[1,2],[],[1,2],[1,2,9],[1,2],[1,2,9],[1,2],[2],[1,2],[1,2,9],[1,2],[]]):=⟨_,by conv=>lhs;reduce⟩
def aRi:GF 12 [.tmp 2] .shut Tryz.f181:=⟨_,by conv=>lhs;cbv⟩
def aOW:GF 10 [.tmp 2] .shut Tryz.f182:=⟨_,by conv=>lhs;cbv⟩
def aJu:GF 9 [] .pass Tryz.f196:=⟨_,by conv=>lhs;cbv⟩
def aLh:GF 20 [.tmp 4] .shut Tryz.f198:=⟨_,by conv=>lhs;cbv⟩
def aHq:GF 25 [.cell 2 340] .shut Tryz.f202 (kpL aL [] [[0],[1,2],[1,2,3],[1,2,3],[1,2,3],[2,3]]):=⟨_,by conv=>lhs;reduce⟩
def aI4:GF 16 [] .pass Tryz.f204 (kpL aL [] [[0,1]]):=⟨_,by conv=>lhs;reduce⟩
def aGw:GF 16 [] .pass Tryz.f206:=⟨_,by conv=>lhs;cbv⟩
def aKs:GF 7 [.tmp 1] .pass Tryz.f220:=⟨_,by conv=>lhs;cbv⟩
def aKp:GF 4 [.tmp 1] .pass Tryz.f222:=⟨_,by conv=>lhs;cbv⟩
def aCH:GF 56 [.tmp 2] .pass Tryz.f223 (kpL aL [] [[0],[0],[],[0],[0,35,36,37],[0,35,36,37],[0,3,4,35,36,37],[],[0,35,36,37],[]]):=⟨_,by conv=>lhs;reduce⟩
def EJ:Got (lpM aCH.m 0):=⟨_,by conv=>lhs;cbv⟩
def SK:M:=EJ.m
theorem aID:UL SK EJ.m:=ul
def aIE:GF 6 [.tmp 2] .pass Tryz.f226:=⟨_,by conv=>lhs;cbv⟩
def aJL:GF 17 [.tmp 1] .pass Tryz.f230 (kpL aL [] [[0],[0]]):=⟨_,by conv=>lhs;reduce⟩
def aSj:GF 2 [.cell 0 285] .shut Tryz.f234:=⟨_,by conv=>lhs;cbv⟩
def aQK:GF 43 [.cell 4 128] .shut Tryz.f235:=⟨_,by conv=>lhs;cbv⟩
def aK8:GF 15 [.cell 2 120] .pass Tryz.f236:=⟨_,by conv=>lhs;cbv⟩
def aHN:GF 21 [.tmp 6,.tmp 7] .shut Tryz.f250 (kpL aL [] [[0,1,2],[2,3,4],[],[2,3,4],[2,4,8]]):=⟨_,by conv=>lhs;reduce⟩
def aJn:GF 14 [.tmp 3] .pass Tryz.f251:=⟨_,by conv=>lhs;cbv⟩
def YB:GF 65 [.cell 8 124,.tmp 9] .pass Tryz.f252 (kpL aL [7,12] [[0,1,2,3],[2,4,5,7,8,9],[8],[2,4,5,7,8,9],[2,5,7,8,9,10],[5,7,8,9,10,11,12],[7,12,33,34],[7,12,13,34],[7,12,13,14],[12,13],[5,8,11,12],[5,8,11,15,16],[8],[5,8,11,15]]):=⟨_,by conv=>lhs;reduce⟩
def E4:Got (lpM YB.m 0):=⟨_,by conv=>lhs;cbv⟩
def wP:M:=E4.m
theorem aHM:UL wP E4.m:=ul
def CI:Got (lpM YB.m 1):=⟨_,by conv=>lhs;cbv⟩
def wW:M:=CI.m
theorem aFo:UL wW CI.m:=ul
def aJ9:GF 18 [.tmp 10] .pass Tryz.f254:=⟨_,by conv=>lhs;cbv⟩
def aCw:GF 62 [] .pass Tryz.f255 (kpL aL [] [[0,1,2,3,4],[1,2,3,4],[1,2,4],[1,2,4,26,27,28],[1,2,4,26,27,28],[1,2,4,6,26,27,28],[1,2,4,26,27,28],[1,4]]):=⟨_,by conv=>lhs;reduce⟩
def C7:Got (lpM aCw.m 0):=⟨_,by conv=>lhs;cbv⟩
def EG:M:=C7.m
theorem aIh:UL EG C7.m:=ul
def aLe:GF 52 [.cell 4 124,.tmp 5,.tmp 6] .shut Tryz.f258 (kpL aL [] [[0,1],[2,3,4],[2,3,4,8],[2,4],[2,3,4,8],[2,4],[2,3,4,8],[2,4],[2,3,4,8],[2,4],[2,3,4,8],[2,3,4,8],[2,3,4],[2,3,4],[2,3,4],[2,4,8],[2,4],[2,4],[2,4],[2,4],[2,4]]):=⟨_,by conv=>lhs;reduce⟩
def aLs:GF 10 [.tmp 2] .shut Tryz.f262:=⟨_,by conv=>lhs;cbv⟩
def aIZ:GF 10 [.tmp 4] .shut Tryz.f265:=⟨_,by conv=>lhs;cbv⟩
def aSw:GF 6 [.tmp 2] .shut Tryz.f269:=⟨_,by conv=>lhs;cbv⟩
def aGp:GF 4 [.tmp 2] .pass Tryz.f271:=⟨_,by conv=>lhs;cbv⟩
def aPb:GF 24 [.tmp 4] .shut Tryz.f272:=⟨_,by conv=>lhs;cbv⟩
def aUg:GF 24 [.tmp 3] .shut Tryz.f273:=⟨_,by conv=>lhs;cbv⟩
def aRw:GF 15 [.tmp 4] .shut Tryz.f276:=⟨_,by conv=>lhs;cbv⟩
def aSc:GF 8 [.tmp 3] .shut Tryz.f277:=⟨_,by conv=>lhs;cbv⟩
def VX:GF 22 [.cell 8 3,.cell 9 4] .pass Tryz.f279 (kpL aL [7,8,9] [[0,1,2,3],[1,2,4,7,8,9],[7,8,9,16,17],[7,8,9,10,17],[7,8,9,10,11],[8,9,10],[8,9]]):=⟨_,by conv=>lhs;reduce⟩
def DZ:Got (lpM VX.m 0):=⟨_,by conv=>lhs;cbv⟩
def kY:M:=DZ.m
theorem aGG:UL kY DZ.m:=ul
def DN:Got (lpM VX.m 1):=⟨_,by conv=>lhs;cbv⟩
def lE:M:=DN.m
theorem aKw:UL lE DN.m:=ul
def aHz:GF 14 [.tmp 2] .pass Tryz.f294:=⟨_,by conv=>lhs;cbv⟩
def aK7:GF 23 [.tmp 6] .shut Tryz.f298:=⟨_,by conv=>lhs;cbv⟩
def aF6:GF 8 [.tmp 6] .pass Tryz.f300:=⟨_,by conv=>lhs;cbv⟩
def aKX:GF 17 [] .pass Tryz.f316 (kpL aL [] [[0]]):=⟨_,by conv=>lhs;reduce⟩
def aHV:GF 6 [] .pass Tryz.f319:=⟨_,by conv=>lhs;cbv⟩
def aKL:GF 11 [] .pass Tryz.f321:=⟨_,by conv=>lhs;cbv⟩
def aR0:GF 220 [] .pass Tryz.f329 (kpL aL [] [[0,1,2,3,4],[0,1,2,3,4],[0,1,3,4,10],[0,1,4,10,11],[0,1,4,10,11],[0,1,4,10,11,12],[0,1,4,11,12],[0,1,4,10,12],[0,1,10],[0,10,13],[0,10,13],[0,10,13],[0,1,2,3,4],[0,1,2,4],[0,2,4,14],[0,2,4,14,15],[0,2,4,14,15],[0,2,4,14,15,16],[0,2,4,15,16],[0,2,4,14,16],[0,2,14],[0,14,17],[0,14,17],[0,14,17],[0,1,2,3,4],[0,1,2,3,4,18],[0,1,2,3,4,18,19],[0,1,2,3,4,18,19],[0,1,2,3,4,18,19],[0,1,2,3,4,18,19,20],[0,1,2,3,4,18,19],[0,1,2,3,4,18,19,20],[0,1,2,3,4,18,19,20,21],[0,1,2,3,4,18,19,20,21,22],[0,1,2,3,4,18,19,20,21,22],[0,1,2,3,4,18,19,20,21,22,23],[0,1,2,3,4,18,19,21,22,23],[0,1,2,3,4,18,19,20,22,23],[0,1,2,3,4,18,19,20],[0,1,2,3,4,18,20,24],[0,1,2,3,4,18,20,24],[0,1,3,4,18,20,24],[0,1,3,4,18,20,24],[0,3,4,18,24],[0,3,4,18,24]]):=⟨_,by conv=>lhs;reduce⟩
def aDn:GF 19 [.tmp 4] .shut Tryz.f335:=⟨_,by conv=>lhs;cbv⟩
def CD:Got (lpM aDn.m 0):=⟨_,by conv=>lhs;cbv⟩
def UM:M:=CD.m
theorem aGk:UL UM CD.m:=ul
def aUt:GF 23 [.cell 4 128] .shut Tryz.f350:=⟨_,by conv=>lhs;cbv⟩
def aLj:GF 26 [.tmp 4,.tmp 5] .pass Tryz.f352:=⟨_,by conv=>lhs;cbv⟩
def aEP:GF 8 [] .pass Tryz.f357:=⟨_,by conv=>lhs;cbv⟩
def aI3:GF 13 [] .pass Tryz.f361 (kpL aL [] [[0]]):=⟨_,by conv=>lhs;reduce⟩
def Y2:GF 29 [] .pass Tryz.f369 (kpL aL [] [[0,1],[1,4],[1,4,17],[1,4,17],[1,4,5,17],[1,4,5,17],[1,4,17]]):=⟨_,by conv=>lhs;reduce⟩
def F2:Got (lpM Y2.m 0):=⟨_,by conv=>lhs;cbv⟩
def E9:M:=F2.m
theorem aJJ:UL E9 F2.m:=ul
def aHl:GF 34 [] .pass Tryz.f371 (kpL aL [] [[0,1],[0,6,7,8],[0,6,7,8],[0,5,6,7,8],[0,5,6,7,8],[0,6,7,8]]):=⟨_,by conv=>lhs;reduce⟩
def aNf:GF 58 [] .pass Tryz.f374:=⟨_,by conv=>lhs;cbv⟩
def aCS:GF 38 [] .pass Tryz.f375 (kpL aL [] [[0,1,2,3],[0,1,2,3,10],[0,1,2,3,10],[0,1,2,3,10]]):=⟨_,by conv=>lhs;reduce⟩
def DP:Got (lpM aCS.m 0):=⟨_,by conv=>lhs;cbv⟩
def SX:M:=DP.m
theorem aKc:UL SX DP.m:=ul
def aK5:GF 21 [.tmp 6] .shut Tryz.f382:=⟨_,by conv=>lhs;cbv⟩
def aCj:GF 28 [.tmp 2] .pass Tryz.f397:=⟨_,by conv=>lhs;cbv⟩
def D7:Got (lpM aCj.m 0):=⟨_,by conv=>lhs;cbv⟩
def Q8:M:=D7.m
theorem aE3:UL Q8 D7.m:=ul
