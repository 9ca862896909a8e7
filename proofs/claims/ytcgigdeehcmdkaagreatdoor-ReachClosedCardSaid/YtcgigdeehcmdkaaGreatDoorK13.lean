/- The evaluator's context: types and bodies, and that they are the program's. Printed by wip/ev/gen/ctx.py. -/
import Derived.Test.YtcgigdeehcmdkaaGreatDoorK10
set_option linter.all false
namespace Go.Proofs.YtcgigdeehcmdkaaGreatDoor.Ev
open Go Go.RowKit
set_option maxRecDepth 100000
def g6:GF 129 [.tmp 2] .shut Tryz.f6 (kpL aL [] [[0],[1],[],[1],[],[1],[1,3,4],[1,3,4,5,6],[3],[1,3,5,6],[],[1,3],[1,3,7],[1,3,7,8],[1,3,7,8,9],[1,3,7,8,9],[1,3,7,8,9],[],[1,3,7,8,9],[1,3,7,8,9,10],[1,3,7,8,9,10,11],[1,3,7,8,9,10,11],[1,3,7,8,9,10,11],[1,3,7,8,9,10,11,12,14],[1,3,7,8,9,10,11,12],[],[1,3,7,8,9,10,11],[3,8]]):=⟨_,by conv=>lhs;reduce⟩
def YO:Got (lpM g6.m 0):=⟨_,by conv=>lhs;cbv⟩
def aJ7:M:=YO.m
theorem aWV:UL aJ7 YO.m:=ul
def WM:Got (lpM g6.m 1):=⟨_,by conv=>lhs;cbv⟩
def aJT:M:=WM.m
theorem aUX:UL aJT WM.m:=ul
def g8:GF 7 [.tmp 2] .shut Tryz.f8:=⟨_,by conv=>lhs;cbv⟩
def g28:GF 45 [.tmp 4] .shut Tryz.f28:=⟨_,by conv=>lhs;cbv⟩
def MC:Got (lpM g28.m 0):=⟨_,by conv=>lhs;cbv⟩
def aCg:M:=MC.m
theorem aR3:UL aCg MC.m:=ul
def g30:GF 52 [.tmp 6,.tmp 7] .pass Tryz.f30 (kpL aL [] [[0,1,2],[1,2,3],[1,2,3,8,9],[],[1,2,3,8],[],[1,2,3,8],[2,3,8,10],[8,10],[10]]):=⟨_,by conv=>lhs;reduce⟩
def g31:GF 57 [.tmp 6] .pass Tryz.f31 (kpL aL [] [[0,1,2],[0,1,2],[0,1,2,7],[],[0,1,2,8],[0,1,2,8],[0,1,2],[0,1,2],[0,1,2],[]]):=⟨_,by conv=>lhs;reduce⟩
def g36:GF 17 [.cell 4 133] .shut Tryz.f36:=⟨_,by conv=>lhs;cbv⟩
def g37:GF 16 [.tmp 2] .shut Tryz.f37:=⟨_,by conv=>lhs;cbv⟩
def g47:GF 83 [.tmp 6] .shut Tryz.f47 (kpL aL [] [[0,1,2],[2,3,4],[3,4,7],[3,4,7,23,24],[3,4,7,23,24],[3,4,7,8,23,24],[3,4,7,8,9,23,24],[3,4,7,8,9,23,24,36,37,38],[3,4,7,8,9,23,24,36,37,38],[3,4,7,8,9,11,23,24,36,37,38],[3,4,7,8,9,12,13,23,24,36,37,38],[3,4,7,8,9,12,23,24,36,37,38],[3,4,7,8,9,12,23,24,36,37,38],[3,4,7,8,9,23,24,36,37,38],[3,4,7,8,9,23,24],[3,4,7,8,9,23,24,62,63,64],[3,4,7,8,9,23,24,62,63,64],[3,4,7,8,9,15,23,24,62,63,64],[3,4,7,8,9,15,23,24,62,63,64],[3,4,7,8,9,23,24,62,63,64],[3,4,7,9,23,24],[],[3,4,7,23,24],[]]):=⟨_,by conv=>lhs;reduce⟩
def g50:GF 77 [.tmp 4] .shut Tryz.f50:=⟨_,by conv=>lhs;cbv⟩
def IT:Got (lpM g50.m 0):=⟨_,by conv=>lhs;cbv⟩
def KF:M:=IT.m
theorem aPK:UL KF IT.m:=ul
def LN:Got (lpM g50.m 1):=⟨_,by conv=>lhs;cbv⟩
def yI:M:=LN.m
theorem aNb:UL yI LN.m:=ul
def g51:GF 36 [.cell 2 67] .pass Tryz.f51 (kpL aL [] [[0],[1,2],[1,2],[1,2,10,11],[1,2,10,11],[1,2,3,10,11],[1,2,10,11],[1,2],[1,2],[1,2]]):=⟨_,by conv=>lhs;reduce⟩
def KU:Got (lpM g51.m 0):=⟨_,by conv=>lhs;cbv⟩
def ZP:M:=KU.m
theorem aQz:UL ZP KU.m:=ul
def g55:GF 17 [.tmp 4] .shut Tryz.f55:=⟨_,by conv=>lhs;cbv⟩
def g60:GF 41 [.tmp 4] .shut Tryz.f60 (kpL aL [] [[0,1],[1,2],[1,5],[1,5,6],[1,5,6],[1,5,6],[1,5]]):=⟨_,by conv=>lhs;reduce⟩
def KX:Got (lpM g60.m 0):=⟨_,by conv=>lhs;cbv⟩
def V1:M:=KX.m
theorem aSo:UL V1 KX.m:=ul
def g71:GF 15 [.tmp 6] .shut Tryz.f71:=⟨_,by conv=>lhs;cbv⟩
def g76:GF 10 [.cell 2 196,.tmp 3] .shut Tryz.f76:=⟨_,by conv=>lhs;cbv⟩
def g77:GF 11 [.tmp 4] .shut Tryz.f77:=⟨_,by conv=>lhs;cbv⟩
def g82:GF 36 [.tmp 4,.tmp 5] .pass Tryz.f82:=⟨_,by conv=>lhs;cbv⟩
def g83:GF 47 [.tmp 4,.tmp 5] .pass Tryz.f83 (kpL aL [] [[0,1],[0,3],[0,3,6],[0,6,7,8,9,10]]):=⟨_,by conv=>lhs;reduce⟩
def g87:GF 19 [.tmp 4] .norm Tryz.f87 (kpL aL [5] [[0,1],[0,1,4],[],[0,1,4],[0,1,4,5],[5,13],[5,6],[5]]):=⟨_,by conv=>lhs;reduce⟩
def LX:Got (lpM g87.m 0):=⟨_,by conv=>lhs;cbv⟩
def BR:M:=LX.m
theorem aKT:UL BR LX.m:=ul
def IA:Got (lpM g87.m 1):=⟨_,by conv=>lhs;cbv⟩
def DP:M:=IA.m
theorem aO6:UL DP IA.m:=ul
def g88:GF 9 [.tmp 4] .shut Tryz.f88:=⟨_,by conv=>lhs;cbv⟩
def g89:GF 59 [.tmp 4] .pass Tryz.f89 (kpL aL [] [[0,1],[0,3],[0,3,5],[0,3,5,23],[0,3,5,23],[0,3,5,23],[3,5],[0,3,5,23],[0,3,5],[3,23],[3],[]]):=⟨_,by conv=>lhs;reduce⟩
def g91:GF 47 [.tmp 4] .shut Tryz.f91 (kpL aL [] [[0,1],[2,3],[],[2,3],[5]]):=⟨_,by conv=>lhs;reduce⟩
def g98:GF 96 [.tmp 6] .shut Tryz.f98:=⟨_,by conv=>lhs;cbv⟩
def LI:GF 8 [.tmp 2] .norm Tryz.f106:=⟨_,by conv=>lhs;cbv⟩
def aG9:GF 20 [.cell 4 205] .shut Tryz.f111 (kpL aL [] [[0,1],[1,2,4],[2,4],[2,4]]):=⟨_,by conv=>lhs;reduce⟩
def aHg:GF 54 [] .pass Tryz.f116 (kpL aL [] [[0,1],[1,2],[1,2],[1,2],[1,2],[1,2]]):=⟨_,by conv=>lhs;reduce⟩
def aHs:GF 16 [] .pass Tryz.f120:=⟨_,by conv=>lhs;cbv⟩
def aIV:GF 5 [] .pass Tryz.f121:=⟨_,by conv=>lhs;cbv⟩
def aIg:GF 13 [] .pass Tryz.f123:=⟨_,by conv=>lhs;cbv⟩
def aSn:GF 32 [.tmp 6] .shut Tryz.f136:=⟨_,by conv=>lhs;cbv⟩
def aMf:GF 26 [.tmp 4] .shut Tryz.f138 (kpL aL [] [[0,1],[0,1],[],[0,1],[0,1,12,13],[0,1,12,13],[0,1,5,12,13],[],[0,1,12,13],[]]):=⟨_,by conv=>lhs;reduce⟩
def aMg:GF 28 [] .pass Tryz.f144 (kpL aL [] [[0],[0,2,3],[0,2,3],[0,2,3]]):=⟨_,by conv=>lhs;reduce⟩
def aGm:GF 18 [.tmp 2] .pass Tryz.f146:=⟨_,by conv=>lhs;cbv⟩
def aFO:GF 9 [.tmp 2] .shut Tryz.f154:=⟨_,by conv=>lhs;cbv⟩
def aHL:GF 28 [.cell 2 131,.tmp 3] .shut Tryz.f159 (kpL aL [] [[0],[1,2],[2],[1,2]]):=⟨_,by conv=>lhs;reduce⟩
def aGc:GF 22 [.tmp 4] .shut Tryz.f166:=⟨_,by conv=>lhs;cbv⟩
def aC1:GF 75 [.cell 10 133,.tmp 11,.tmp 12,.tmp 13] .shut Tryz.f167 (kpL aL [] [[0,1,2,3,4],[2,5,6,8,9,10],[8,10],[2,5,6,8,9,10],[2,5,6,8,9,10,14],[2,5,6,8,9,10,14,16,17],[8,10],[2,5,6,8,9,10,14,16],[5,9,10,18],[5,10,18]]):=⟨_,by conv=>lhs;reduce⟩
def aNu:GF 65 [.tmp 4] .shut Tryz.f186 (kpL aL [] [[0,1],[2,3],[2,3,5],[2,3,5,6],[2,3,5,6,7,8],[5,6,7,8,38],[5,6,8],[5,6,7,8,38],[5,6,7,8,38],[5,6,7,8,38],[5,6,7],[5,6,7,8,38],[5,6,7,8],[],[5,7,8]]):=⟨_,by conv=>lhs;reduce⟩
def aLd:GF 4 [.tmp 2] .shut Tryz.f188:=⟨_,by conv=>lhs;cbv⟩
def aHD:GF 13 [.tmp 5] .pass Tryz.f190:=⟨_,by conv=>lhs;cbv⟩
def aR2:GF 9 [.tmp 4] .shut Tryz.f192:=⟨_,by conv=>lhs;cbv⟩
def aQL:GF 7 [.tmp 2] .shut Tryz.f193:=⟨_,by conv=>lhs;cbv⟩
def aIB:GF 6 [.tmp 2] .shut Tryz.f195:=⟨_,by conv=>lhs;cbv⟩
def aNT:GF 9 [] .pass Tryz.f196:=⟨_,by conv=>lhs;cbv⟩
def aD6:GF 7 [.tmp 4] .shut Tryz.f205:=⟨_,by conv=>lhs;cbv⟩
def aC3:GF 16 [] .pass Tryz.f210:=⟨_,by conv=>lhs;cbv⟩
def W4:GF 20 [.tmp 3] .pass Tryz.f219:=⟨_,by conv=>lhs;cbv⟩
def ED:Got (lpM W4.m 0):=⟨_,by conv=>lhs;cbv⟩
def EJ:M:=ED.m
theorem aHZ:UL EJ ED.m:=ul
def aGJ:GF 6 [.tmp 2] .shut Tryz.f225:=⟨_,by conv=>lhs;cbv⟩
def G9:GF 36 [] .pass Tryz.f232:=⟨_,by conv=>lhs;cbv⟩
def BD:Got (lpM G9.m 0):=⟨_,by conv=>lhs;cbv⟩
def PM:M:=BD.m
theorem aGg:UL PM BD.m:=ul
def CH:Got (lpM G9.m 1):=⟨_,by conv=>lhs;cbv⟩
def QC:M:=CH.m
theorem aH3:UL QC CH.m:=ul
def CX:Got (lpM G9.m 2):=⟨_,by conv=>lhs;cbv⟩
def P8:M:=CX.m
theorem aIC:UL P8 CX.m:=ul
def B9:Got (lpM G9.m 3):=⟨_,by conv=>lhs;cbv⟩
def NI:M:=B9.m
theorem aHk:UL NI B9.m:=ul
def aNo:GF 2 [.cell 0 285] .shut Tryz.f234:=⟨_,by conv=>lhs;cbv⟩
def aGW:GF 15 [.cell 2 120] .pass Tryz.f236:=⟨_,by conv=>lhs;cbv⟩
def aIR:GF 3 [.tmp 2] .pass Tryz.f239:=⟨_,by conv=>lhs;cbv⟩
def aHK:GF 23 [.tmp 2] .pass Tryz.f241 (kpL aL [] [[0],[0],[0,3,4],[0,3],[]]):=⟨_,by conv=>lhs;reduce⟩
def aGP:GF 23 [.cell 6 124,.tmp 7] .shut Tryz.f248:=⟨_,by conv=>lhs;cbv⟩
def aB3:GF 36 [.cell 6 36,.tmp 7] .pass Tryz.f249:=⟨_,by conv=>lhs;cbv⟩
def aGR:GF 25 [.tmp 4] .shut Tryz.f267 (kpL aL [] [[0,1],[1,2],[1,5,6],[],[1,5]]):=⟨_,by conv=>lhs;reduce⟩
def aQN:GF 24 [.tmp 4] .shut Tryz.f272:=⟨_,by conv=>lhs;cbv⟩
def aEv:GF 4 [.tmp 2] .pass Tryz.f280:=⟨_,by conv=>lhs;cbv⟩
def aQB:GF 24 [] .pass Tryz.f282:=⟨_,by conv=>lhs;cbv⟩
def aL0:GF 63 [] .pass Tryz.f283:=⟨_,by conv=>lhs;cbv⟩
def UO:GF 53 [] .pass Tryz.f285 (kpL aL [] [[0,1,2,3],[0,1,2,3,8],[0,1,2,3,8],[0,1,2,3,8],[0,1,2,3,8,9],[0,1,2,3,8,9],[0,1,2,3,8,9]]):=⟨_,by conv=>lhs;reduce⟩
def DV:Got (lpM UO.m 0):=⟨_,by conv=>lhs;cbv⟩
def PD:M:=DV.m
theorem aFS:UL PD DV.m:=ul
def BQ:Got (lpM UO.m 1):=⟨_,by conv=>lhs;cbv⟩
def N4:M:=BQ.m
theorem aDb:UL N4 BQ.m:=ul
def XR:GF 55 [.tmp 2] .shut Tryz.f292:=⟨_,by conv=>lhs;cbv⟩
def EH:Got (lpM XR.m 0):=⟨_,by conv=>lhs;cbv⟩
def P9:M:=EH.m
theorem aGN:UL P9 EH.m:=ul
def aAB:GF 141 [.tmp 8] .pass Tryz.f295:=⟨_,by conv=>lhs;cbv⟩
def CY:Got (lpM aAB.m 0):=⟨_,by conv=>lhs;cbv⟩
def EP:M:=CY.m
theorem aE2:UL EP CY.m:=ul
def aKy:GF 7 [.tmp 0] .shut Tryz.f296:=⟨_,by conv=>lhs;cbv⟩
def aIQ:GF 23 [.tmp 6] .shut Tryz.f299:=⟨_,by conv=>lhs;cbv⟩
def aHX:GF 101 [.tmp 4] .pass Tryz.f304 (kpL aL [] [[0,1],[0,1],[0,1],[0,12],[0],[0,12],[0,12],[0,12],[0,12],[0],[0],[0],[0,5,6],[6],[0,5],[0],[0],[0],[0],[]]):=⟨_,by conv=>lhs;reduce⟩
def aEo:GF 5 [] .pass Tryz.f307:=⟨_,by conv=>lhs;cbv⟩
def aGG:GF 20 [] .pass Tryz.f308 (kpL aL [] [[0]]):=⟨_,by conv=>lhs;reduce⟩
def aHi:GF 11 [] .pass Tryz.f318:=⟨_,by conv=>lhs;cbv⟩
def aIc:GF 13 [.tmp 3] .pass Tryz.f327:=⟨_,by conv=>lhs;cbv⟩
def aEp:GF 16 [.tmp 1] .pass Tryz.f336:=⟨_,by conv=>lhs;cbv⟩
def aHY:GF 9 [.tmp 1] .pass Tryz.f337 (kpL aL [] [[0],[0]]):=⟨_,by conv=>lhs;reduce⟩
def aER:GF 67 [.cell 2 97] .pass Tryz.f338:=⟨_,by conv=>lhs;cbv⟩
def aDV:GF 11 [.tmp 2] .shut Tryz.f343:=⟨_,by conv=>lhs;cbv⟩
def aCo:GF 56 [.tmp 2] .pass Tryz.f345:=⟨_,by conv=>lhs;cbv⟩
def aPf:GF 45 [.cell 4 128] .shut Tryz.f347 (kpL aL [] [[0,1],[1,2,4],[1,2,4,8,9],[1,2,4,8,9],[1,2,4,5,8,9],[1,2,4,5],[1,2,4,8,9],[1,2,4],[2,4]]):=⟨_,by conv=>lhs;reduce⟩
def aEG:GF 25 [.tmp 4,.tmp 5] .pass Tryz.f348:=⟨_,by conv=>lhs;cbv⟩
def aFA:GF 55 [.tmp 4,.tmp 5] .pass Tryz.f351:=⟨_,by conv=>lhs;cbv⟩
def aDo:GF 26 [.tmp 4,.tmp 5] .pass Tryz.f352:=⟨_,by conv=>lhs;cbv⟩
def aLN:GF 3 [] .pass Tryz.f354:=⟨_,by conv=>lhs;cbv⟩
def aH4:GF 15 [] .pass Tryz.f356:=⟨_,by conv=>lhs;cbv⟩
def aDc:GF 8 [] .pass Tryz.f358:=⟨_,by conv=>lhs;cbv⟩
def aGt:GF 92 [] .pass Tryz.f364 (kpL aL [] [[0],[0,2],[0,2],[0,2,3],[0,2,3,4],[0,2,3,4],[0,2,3,4],[0,2,3,4]]):=⟨_,by conv=>lhs;reduce⟩
def aE9:GF 29 [.cell 6 133] .shut Tryz.f367:=⟨_,by conv=>lhs;cbv⟩
def aEj:GF 26 [.cell 6 133] .shut Tryz.f368:=⟨_,by conv=>lhs;cbv⟩
def aDR:GF 36 [] .pass Tryz.f370 (kpL aL [] [[0,1],[0,1],[1]]):=⟨_,by conv=>lhs;reduce⟩
def aDS:GF 26 [.cell 4 59] .shut Tryz.f373 (kpL aL [] [[0,1],[1,2,4],[1,2,4,5,6],[2,4],[1,2,4,5]]):=⟨_,by conv=>lhs;reduce⟩
def Z8:GF 38 [] .pass Tryz.f375 (kpL aL [] [[0,1,2,3],[0,1,2,3,10],[0,1,2,3,10],[0,1,2,3,10]]):=⟨_,by conv=>lhs;reduce⟩
def CF:Got (lpM Z8.m 0):=⟨_,by conv=>lhs;cbv⟩
def OZ:M:=CF.m
theorem aHN:UL OZ CF.m:=ul
def aG3:GF 34 [] .pass Tryz.f380 (kpL aL [] [[0,1],[0,6,7,8],[0,6,7,8],[0,5,6,7,8],[0,5,6,7,8],[0,6,7,8]]):=⟨_,by conv=>lhs;reduce⟩
def aHP:GF 28 [.cell 4 128] .shut Tryz.f385 (kpL aL [] [[0,1],[1,2,4],[2,4],[1,2,4]]):=⟨_,by conv=>lhs;reduce⟩
def UQ:GF 50 [] .pass Tryz.f388 (kpL aL [] [[0],[0],[0],[0],[0]]):=⟨_,by conv=>lhs;reduce⟩
def ET:Got (lpM UQ.m 0):=⟨_,by conv=>lhs;cbv⟩
def NX:M:=ET.m
theorem aH1:UL NX ET.m:=ul
def EB:Got (lpM UQ.m 1):=⟨_,by conv=>lhs;cbv⟩
def OQ:M:=EB.m
theorem aDL:UL OQ EB.m:=ul
def aCz:GF 16 [.cell 4 59] .shut Tryz.f395:=⟨_,by conv=>lhs;cbv⟩
