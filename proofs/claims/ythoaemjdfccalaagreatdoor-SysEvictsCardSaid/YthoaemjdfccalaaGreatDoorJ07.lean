/- The evaluator's context: types and bodies, and that they are the program's. Printed by wip/ev/gen/ctx.py. -/
import Derived.Test.YthoaemjdfccalaaGreatDoorJ06
set_option linter.all false
namespace Go.Proofs.YthoaemjdfccalaaGreatDoor.Ev
open Go Go.RowKit
set_option maxRecDepth 100000
def g4:GF 169 [.tmp 6] .shut Tryz.f4 (kpL aM [] [[0,1,2],[1,2,3],[],[1,2,3],[2,3,7],[],[2,3],[2,3,8],[2,3,8,10],[2,3,8,10],[2,3,8,10],[2,3,8,10,11],[2,3,8,10,11],[2,3,8,10,12],[2,3,8,10,12,13,14,15],[],[2,3,8,10,12,13],[2,3,8,10,12,13,16],[2,3,8,10,12,13],[2,3,8,10,12,13,16],[2,3,8,10,12,13,16,17],[2,3,8,10,12,13,16,17],[2,3,8,10,12,13,16,17],[],[2,3,8,10,12,13,16],[2,3,8,10,12,13,16,18],[2,3,8,10,12,13,16,18],[2,3,8,10,12,13,16,18],[],[2,3,8,10,13],[]]):=⟨_,by conv=>lhs;reduce⟩
def aAn:Got (lpM g4.m 0):=⟨_,by conv=>lhs;cbv⟩
def aJw:M:=aAn.m
theorem aUq:UL aJw aAn.m:=ul
def aCj:Got (lpM g4.m 1):=⟨_,by conv=>lhs;cbv⟩
def aJA:M:=aCj.m
theorem aSF:UL aJA aCj.m:=ul
def Y6:Got (lpM g4.m 2):=⟨_,by conv=>lhs;cbv⟩
def aJJ:M:=Y6.m
theorem aWI:UL aJJ Y6.m:=ul
def g12:GF 16 [.tmp 4] .shut Tryz.f12:=⟨_,by conv=>lhs;cbv⟩
def g18:GF 28 [.cell 6 81,.tmp 7] .shut Tryz.f18:=⟨_,by conv=>lhs;cbv⟩
def g19:GF 18 [.tmp 4] .shut Tryz.f19 (kpL aM [] [[0,1],[0,3],[0,3,5],[0,3,5],[0,3,5],[],[]]):=⟨_,by conv=>lhs;reduce⟩
def M0:Got (lpM g19.m 0):=⟨_,by conv=>lhs;cbv⟩
def XL:M:=M0.m
theorem aRi:UL XL M0.m:=ul
def g26:GF 2 [.cell 0 109] .shut Tryz.f26:=⟨_,by conv=>lhs;cbv⟩
def g27:GF 26 [.tmp 4] .shut Tryz.f27 (kpL aM [] [[0,1],[0,1],[],[0,1],[0,1,5],[0,1,5],[0,1,5],[],[]]):=⟨_,by conv=>lhs;reduce⟩
def g28:GF 37 [.cell 2 42,.tmp 3] .shut Tryz.f28:=⟨_,by conv=>lhs;cbv⟩
def g33:GF 25 [.tmp 4] .shut Tryz.f33 (kpL aM [7] [[0,1],[1,2,4],[1,4,5,6],[],[1,4,5],[1,4,5,7],[7,19],[7,8],[7]]):=⟨_,by conv=>lhs;reduce⟩
def g34:GF 23 [.cell 8 56] .shut Tryz.f34:=⟨_,by conv=>lhs;cbv⟩
def g36:GF 12 [.tmp 4] .shut Tryz.f36:=⟨_,by conv=>lhs;cbv⟩
def g43:GF 10 [.cell 2 136,.tmp 3] .shut Tryz.f43:=⟨_,by conv=>lhs;cbv⟩
def g45:GF 29 [.tmp 6,.tmp 7,.tmp 8] .shut Tryz.f45 (kpL aM [] [[0,1,2],[2,3,4],[],[2,3,4],[2,4,9],[2,4,6,9],[6,7,8]]):=⟨_,by conv=>lhs;reduce⟩
def g46:GF 96 [.tmp 6] .shut Tryz.f46:=⟨_,by conv=>lhs;cbv⟩
def g52:GF 54 [.cell 2 42,.tmp 3] .shut Tryz.f52:=⟨_,by conv=>lhs;cbv⟩
def g75:GF 59 [.tmp 4] .pass Tryz.f75 (kpL aM [] [[0,1],[0,3],[0,3,5],[0,3,5,23],[0,3,5,23],[0,3,5,23],[3,5],[0,3,5,23],[0,3,5],[3,23],[3],[]]):=⟨_,by conv=>lhs;reduce⟩
def g76:GF 8 [.tmp 2] .pass Tryz.f76:=⟨_,by conv=>lhs;cbv⟩
def g78:GF 8 [.tmp 2] .pass Tryz.f78:=⟨_,by conv=>lhs;cbv⟩
def g80:GF 17 [.tmp 4] .pass Tryz.f80:=⟨_,by conv=>lhs;cbv⟩
def g89:GF 6 [.tmp 2] .shut Tryz.f89:=⟨_,by conv=>lhs;cbv⟩
def g97:GF 60 [] .pass Tryz.f97:=⟨_,by conv=>lhs;cbv⟩
def MC:GF 51 [.tmp 6] .pass Tryz.f101 (kpL aM [] [[0,1,2],[0,1,2],[0,1,7],[0,1,7,8,9],[],[0,1,7,8],[0,7,8,9,10],[],[0,7,8,10],[0,8,9,11],[],[0,8,11],[],[0,8,11],[]]):=⟨_,by conv=>lhs;reduce⟩
def aQd:GF 3 [.tmp 0] .shut Tryz.f102:=⟨_,by conv=>lhs;cbv⟩
def aEP:GF 27 [.tmp 4] .pass Tryz.f108 (kpL aM [] [[0,1],[1,2],[1,2],[1,2]]):=⟨_,by conv=>lhs;reduce⟩
def aFZ:GF 44 [.cell 6 95] .norm Tryz.f114:=⟨_,by conv=>lhs;cbv⟩
def aEM:GF 12 [.tmp 10] .pass Tryz.f119:=⟨_,by conv=>lhs;cbv⟩
def aGo:GF 52 [.cell 10 90,.tmp 11,.tmp 12] .shut Tryz.f120:=⟨_,by conv=>lhs;cbv⟩
def aC9:GF 15 [.tmp 4] .pass Tryz.f122 (kpL aM [] [[0,1,2],[0,1,2]]):=⟨_,by conv=>lhs;reduce⟩
def aEf:GF 75 [.cell 10 90,.tmp 11,.tmp 12,.tmp 13] .shut Tryz.f125 (kpL aM [] [[0,1,2,3,4],[2,5,6,8,9,10],[8,10],[2,5,6,8,9,10],[2,5,6,8,9,10,14],[2,5,6,8,9,10,14,16,17],[8,10],[2,5,6,8,9,10,14,16],[5,9,10,18],[5,10,18]]):=⟨_,by conv=>lhs;reduce⟩
def aDF:GF 6 [.tmp 4] .pass Tryz.f131:=⟨_,by conv=>lhs;cbv⟩
def aOQ:GF 17 [] .pass Tryz.f144:=⟨_,by conv=>lhs;cbv⟩
def aLU:GF 13 [.cell 5 36,.tmp 6] .pass Tryz.f147 (kpL aM [] [[0,1,2],[1,2,5]]):=⟨_,by conv=>lhs;reduce⟩
def aI5:GF 9 [.tmp 2] .pass Tryz.f148:=⟨_,by conv=>lhs;cbv⟩
def aMT:GF 33 [.cell 4 36,.tmp 5] .pass Tryz.f149 (kpL aM [] [[0,1],[1,2,4],[1,2,4,6,7],[4],[1,2,4,6],[4,6,7,8]]):=⟨_,by conv=>lhs;reduce⟩
def aPS:GF 31 [] .pass Tryz.f153 (kpL aM [2,3,4] [[0,1,2],[1,2,3],[1,2,3,4],[2,3,4,9],[2,3,4,5],[2,3,4,5],[2,3,4,5],[3,4,6]]):=⟨_,by conv=>lhs;reduce⟩
def aQp:GF 8 [.tmp 4] .pass Tryz.f154:=⟨_,by conv=>lhs;cbv⟩
def X8:GF 20 [.tmp 3] .pass Tryz.f160:=⟨_,by conv=>lhs;cbv⟩
def GE:Got (lpM X8.m 0):=⟨_,by conv=>lhs;cbv⟩
def FC:M:=GE.m
theorem aDo:UL FC GE.m:=ul
def aGM:GF 7 [.tmp 1] .pass Tryz.f161:=⟨_,by conv=>lhs;cbv⟩
def aDp:GF 34 [.tmp 2] .shut Tryz.f162:=⟨_,by conv=>lhs;cbv⟩
def aCF:GF 56 [.tmp 2] .pass Tryz.f164 (kpL aM [] [[0],[0],[],[0],[0,35,36,37],[0,35,36,37],[0,3,4,35,36,37],[],[0,35,36,37],[]]):=⟨_,by conv=>lhs;reduce⟩
def F0:Got (lpM aCF.m 0):=⟨_,by conv=>lhs;cbv⟩
def RS:M:=F0.m
theorem aGl:UL RS F0.m:=ul
def aF1:GF 11 [.tmp 3] .pass Tryz.f168:=⟨_,by conv=>lhs;cbv⟩
def U9:GF 43 [.tmp 4] .shut Tryz.f169:=⟨_,by conv=>lhs;cbv⟩
def FK:Got (lpM U9.m 0):=⟨_,by conv=>lhs;cbv⟩
def O8:M:=FK.m
theorem aEH:UL O8 FK.m:=ul
def FP:Got (lpM U9.m 1):=⟨_,by conv=>lhs;cbv⟩
def SJ:M:=FP.m
theorem aDX:UL SJ FP.m:=ul
def aFg:GF 10 [.tmp 6] .shut Tryz.f172:=⟨_,by conv=>lhs;cbv⟩
def aRK:GF 2 [.cell 0 226] .shut Tryz.f174:=⟨_,by conv=>lhs;cbv⟩
def aGO:GF 3 [.tmp 2] .pass Tryz.f180:=⟨_,by conv=>lhs;cbv⟩
def aDs:GF 20 [] .pass Tryz.f185 (kpL aM [] [[0,1,2,3]]):=⟨_,by conv=>lhs;reduce⟩
def aIz:GF 18 [.tmp 4] .shut Tryz.f186:=⟨_,by conv=>lhs;cbv⟩
def aIu:GF 23 [.cell 6 81,.tmp 7] .shut Tryz.f188:=⟨_,by conv=>lhs;cbv⟩
def U0:GF 65 [.cell 8 81,.tmp 9] .pass Tryz.f192 (kpL aM [7,12] [[0,1,2,3],[2,4,5,7,8,9],[8],[2,4,5,7,8,9],[2,5,7,8,9,10],[5,7,8,9,10,11,12],[7,12,33,34],[7,12,13,34],[7,12,13,14],[12,13],[5,8,11,12],[5,8,11,15,16],[8],[5,8,11,15]]):=⟨_,by conv=>lhs;reduce⟩
def GT:Got (lpM U0.m 0):=⟨_,by conv=>lhs;cbv⟩
def yY:M:=GT.m
theorem aEj:UL yY GT.m:=ul
def GS:Got (lpM U0.m 1):=⟨_,by conv=>lhs;cbv⟩
def zG:M:=GS.m
theorem aF9:UL zG GS.m:=ul
def aD0:GF 18 [.tmp 10] .pass Tryz.f194:=⟨_,by conv=>lhs;cbv⟩
def Y4:GF 62 [] .pass Tryz.f195 (kpL aM [] [[0,1,2,3,4],[1,2,3,4],[1,2,4],[1,2,4,26,27,28],[1,2,4,26,27,28],[1,2,4,6,26,27,28],[1,2,4,26,27,28],[1,4]]):=⟨_,by conv=>lhs;reduce⟩
def F8:Got (lpM Y4.m 0):=⟨_,by conv=>lhs;cbv⟩
def FY:M:=F8.m
theorem aHa:UL FY F8.m:=ul
def X4:GF 25 [] .pass Tryz.f206 (kpL aM [] [[0,1,2,3],[0,2,3,8,9],[0,2,3,8,9],[0,2,3,5,8,9],[0,2,3,8,9]]):=⟨_,by conv=>lhs;reduce⟩
def FB:Got (lpM X4.m 0):=⟨_,by conv=>lhs;cbv⟩
def pL:M:=FB.m
theorem aEG:UL pL FB.m:=ul
def ZP:GF 23 [.tmp 4,.tmp 5,.tmp 6] .shut Tryz.f212 (kpL aM [] [[0,1],[0,1],[0,1,7],[0,1,7],[0]]):=⟨_,by conv=>lhs;reduce⟩
def aFQ:GF 22 [.tmp 4,.tmp 5] .shut Tryz.f224 (kpL aM [] [[0,1],[2,3],[],[2,3],[2,6]]):=⟨_,by conv=>lhs;reduce⟩
def aHe:GF 20 [] .pass Tryz.f232 (kpL aM [] [[0]]):=⟨_,by conv=>lhs;reduce⟩
def aEw:GF 11 [] .pass Tryz.f237:=⟨_,by conv=>lhs;cbv⟩
def aCJ:GF 8 [.tmp 4] .shut Tryz.f249:=⟨_,by conv=>lhs;cbv⟩
def aOd:GF 47 [.tmp 2] .shut Tryz.f252:=⟨_,by conv=>lhs;cbv⟩
def aGp:GF 16 [.tmp 1] .pass Tryz.f256:=⟨_,by conv=>lhs;cbv⟩
def aE8:GF 18 [.tmp 1] .pass Tryz.f260 (kpL aM [] [[0],[0]]):=⟨_,by conv=>lhs;reduce⟩
def aIS:GF 56 [.tmp 2] .pass Tryz.f265:=⟨_,by conv=>lhs;cbv⟩
def aGV:GF 26 [.tmp 4,.tmp 5] .pass Tryz.f272:=⟨_,by conv=>lhs;cbv⟩
def aNm:GF 3 [] .pass Tryz.f273:=⟨_,by conv=>lhs;cbv⟩
def aIk:GF 15 [] .pass Tryz.f276:=⟨_,by conv=>lhs;cbv⟩
def aI7:GF 13 [] .pass Tryz.f281 (kpL aM [] [[0]]):=⟨_,by conv=>lhs;reduce⟩
def aFj:GF 8 [] .pass Tryz.f283:=⟨_,by conv=>lhs;cbv⟩
def aEA:GF 26 [.cell 6 90] .shut Tryz.f288:=⟨_,by conv=>lhs;cbv⟩
def WZ:GF 30 [.tmp 2] .shut Tryz.f302:=⟨_,by conv=>lhs;cbv⟩
def aI9:GF 34 [] .pass Tryz.f305 (kpL aM [] [[0,1],[0,6,7,8],[0,6,7,8],[0,5,6,7,8],[0,5,6,7,8],[0,6,7,8]]):=⟨_,by conv=>lhs;reduce⟩
def aGh:GF 18 [.tmp 2] .pass Tryz.f315 (kpL aM [] [[0],[0]]):=⟨_,by conv=>lhs;reduce⟩
def aH3:GF 4 [.tmp 2] .pass Tryz.f320:=⟨_,by conv=>lhs;cbv⟩
def aEl:GF 39 [.cell 4 54] .shut Tryz.f322:=⟨_,by conv=>lhs;cbv⟩
def aHA:GF 46 [.tmp 2] .pass Tryz.f324 (kpL aM [] [[0],[0],[0,3],[0,3,4],[3],[3]]):=⟨_,by conv=>lhs;reduce⟩
def aBQ:GF 28 [.tmp 2] .pass Tryz.f325:=⟨_,by conv=>lhs;cbv⟩
def FQ:Got (lpM aBQ.m 0):=⟨_,by conv=>lhs;cbv⟩
def TW:M:=FQ.m
theorem aFY:UL TW FQ.m:=ul
def aGZ:GF 15 [] .pass Tryz.f327:=⟨_,by conv=>lhs;cbv⟩
def g5:GF 119 [.tmp 6] .shut Tryz.f5 (kpL aM [] [[0,1,2],[1,2,3],[],[1,2,3],[2,3,7],[],[2,3],[2,3,8],[2,3,8,10],[2,3,8,10],[2,3,8,10],[2,3,8,10,11],[2,3,8,10,11,12],[2,3,8,10,11,12],[2,3,8,10,11,12],[2,3,8,10,11,12,13],[2,3,8,10,11,12,13],[2,3,8,10,11,12,13],[2,3,8,10,11,12,13,14,15],[2,3,8,10,11,12,13,16],[],[2,3,8,10,11],[2,3,8,10,11],[2,3,8,10,17,19],[],[2,3,8,10,17],[]]):=⟨_,by conv=>lhs;reduce⟩
def aA8:Got (lpM g5.m 0):=⟨_,by conv=>lhs;cbv⟩
def aJK:M:=aA8.m
theorem aUl:UL aJK aA8.m:=ul
def aB2:Got (lpM g5.m 1):=⟨_,by conv=>lhs;cbv⟩
def aJT:M:=aB2.m
theorem aWt:UL aJT aB2.m:=ul
def Z7:Got (lpM g5.m 2):=⟨_,by conv=>lhs;cbv⟩
def aJE:M:=Z7.m
theorem aSi:UL aJE Z7.m:=ul
def g8:GF 86 [.tmp 0] .shut Tryz.f8:=⟨_,by conv=>lhs;cbv⟩
def g11:GF 36 [.tmp 4] .norm Tryz.f11 (kpL aM [5,6] [[0,1],[2,3,4],[],[2,3,4],[4,5],[4,5,6],[5,6,19],[5,6,7],[6,7,9],[6,7],[6,7,26],[6,7,26],[6,7,26],[6]]):=⟨_,by conv=>lhs;reduce⟩
def ML:Got (lpM g11.m 0):=⟨_,by conv=>lhs;cbv⟩
def xW:M:=ML.m
theorem aMr:UL xW ML.m:=ul
def L8:Got (lpM g11.m 1):=⟨_,by conv=>lhs;cbv⟩
def xI:M:=L8.m
theorem aOc:UL xI L8.m:=ul
def g16:GF 38 [.tmp 4] .shut Tryz.f16:=⟨_,by conv=>lhs;cbv⟩
def g17:GF 25 [.tmp 4] .shut Tryz.f17:=⟨_,by conv=>lhs;cbv⟩
def g29:GF 61 [.tmp 2] .shut Tryz.f29:=⟨_,by conv=>lhs;cbv⟩
def g31:GF 17 [.cell 4 90] .shut Tryz.f31:=⟨_,by conv=>lhs;cbv⟩
def g32:GF 16 [.tmp 2] .shut Tryz.f32:=⟨_,by conv=>lhs;cbv⟩
def g40:GF 36 [.cell 2 62] .pass Tryz.f40 (kpL aM [] [[0],[1,2],[1,2],[1,2,10,11],[1,2,10,11],[1,2,3,10,11],[1,2,10,11],[1,2],[1,2],[1,2]]):=⟨_,by conv=>lhs;reduce⟩
def LL:Got (lpM g40.m 0):=⟨_,by conv=>lhs;cbv⟩
def aCE:M:=LL.m
theorem aKi:UL aCE LL.m:=ul
def g42:GF 26 [.tmp 4] .shut Tryz.f42 (kpL aM [] [[0,1],[0,1],[],[0,1],[0,1,5],[0,1,5],[0,1,5],[],[]]):=⟨_,by conv=>lhs;reduce⟩
def N0:Got (lpM g42.m 0):=⟨_,by conv=>lhs;cbv⟩
def aCB:M:=N0.m
theorem aMD:UL aCB N0.m:=ul
def g47:GF 23 [.tmp 4] .pass Tryz.f47:=⟨_,by conv=>lhs;cbv⟩
def g54:GF 57 [.cell 2 42,.cell 3 3,.cell 4 63] .shut Tryz.f54 (kpL aM [2,3,4,5,6] [[0],[0,2,3,4],[2,3,4],[0,2,3,4],[0,2,3,4,5],[0,2,3,4,5,6],[2,3,4,5,6,17,18],[2,3,4,5,6,7,18],[2,3,4,5,6,7,8],[2,3,4,5,7,8],[2,3,4,7],[5,8],[2,3,4,5,6,7,8],[2,3,4,7,9],[2,3,4,7,9],[2,3,4,5],[2,3,4],[2,3,4,5]]):=⟨_,by conv=>lhs;reduce⟩
def g61:GF 18 [.cell 2 4] .shut Tryz.f61 (kpL aM [1,2] [[0],[1,2],[2],[1,2],[1,2,9],[1,2,3],[2],[2]]):=⟨_,by conv=>lhs;reduce⟩
def LA:Got (lpM g61.m 0):=⟨_,by conv=>lhs;cbv⟩
def lH:M:=LA.m
theorem aNo:UL lH LA.m:=ul
def NJ:Got (lpM g61.m 1):=⟨_,by conv=>lhs;cbv⟩
def lQ:M:=NJ.m
theorem aLL:UL lQ NJ.m:=ul
def g63:GF 11 [.tmp 4] .shut Tryz.f63:=⟨_,by conv=>lhs;cbv⟩
def g68:GF 36 [.tmp 4,.tmp 5] .pass Tryz.f68:=⟨_,by conv=>lhs;cbv⟩
def g69:GF 47 [.tmp 4,.tmp 5] .pass Tryz.f69 (kpL aM [] [[0,1],[0,3],[0,3,6],[0,6,7,8,9,10]]):=⟨_,by conv=>lhs;reduce⟩
def g77:GF 8 [.tmp 2] .norm Tryz.f77:=⟨_,by conv=>lhs;cbv⟩
def g79:GF 8 [.tmp 2] .norm Tryz.f79:=⟨_,by conv=>lhs;cbv⟩
def g83:GF 4 [.tmp 2] .pass Tryz.f83:=⟨_,by conv=>lhs;cbv⟩
def g85:GF 26 [.tmp 4,.tmp 5] .shut Tryz.f85:=⟨_,by conv=>lhs;cbv⟩
def OC:Got (lpM g85.m 0):=⟨_,by conv=>lhs;cbv⟩
def aBZ:M:=OC.m
theorem aPM:UL aBZ OC.m:=ul
def V8:GF 21 [.cell 6 42,.cell 7 63] .shut Tryz.f104 (kpL aM [3,4,5,6,7] [[0,1,2],[3,4,5,6,7],[3,4,5,6,7,11,12],[3,4,5,6,7,8,12],[3,4,5,6,7,8,9],[3,5,6,7,9],[3,6,7],[6,7]]):=⟨_,by conv=>lhs;reduce⟩
def G9:Got (lpM V8.m 0):=⟨_,by conv=>lhs;cbv⟩
def vN:M:=G9.m
theorem aEa:UL vN G9.m:=ul
def D7:Got (lpM V8.m 1):=⟨_,by conv=>lhs;cbv⟩
def vL:M:=D7.m
theorem aFb:UL vL D7.m:=ul
def aER:GF 1 [.tmp 0] .pass Tryz.f106:=⟨_,by conv=>lhs;cbv⟩
def aDf:GF 9 [.tmp 2] .shut Tryz.f112:=⟨_,by conv=>lhs;cbv⟩
def aBF:GF 19 [.tmp 4] .pass Tryz.f121:=⟨_,by conv=>lhs;cbv⟩
def F3:Got (lpM aBF.m 0):=⟨_,by conv=>lhs;cbv⟩
def RN:M:=F3.m
theorem aHm:UL RN F3.m:=ul
def aEd:GF 86 [.cell 10 58,.tmp 11,.tmp 12] .shut Tryz.f127 (kpL aM [] [[0,1,2,3,4],[2,5,6,8,9,10],[8,10],[2,5,6,8,9,10],[2,5,6,8,9,10,30],[2,5,6,8,9,10,30],[8,9,10],[2,5,6,8,9,10],[2,5,6,8,9,10,13,14],[8,10],[2,5,6,8,9,10,13],[8,10],[2,5,6,8,9,10,13],[8,10],[2,5,6,8,9,10,13],[2,6,8,9,10,15],[2,6,8,9,10,15,16],[8,10,16],[2,6,8,9,10,15],[10,15,17],[10,15,17],[10,17]]):=⟨_,by conv=>lhs;reduce⟩
def aHK:GF 9 [.tmp 2] .shut Tryz.f130:=⟨_,by conv=>lhs;cbv⟩
def aIU:GF 8 [.tmp 6] .pass Tryz.f134:=⟨_,by conv=>lhs;cbv⟩
def aRf:GF 22 [] .pass Tryz.f145 (kpL aM [] [[0,1,2,3,4]]):=⟨_,by conv=>lhs;reduce⟩
def aO0:GF 51 [.tmp 4,.tmp 5] .pass Tryz.f151:=⟨_,by conv=>lhs;cbv⟩
def aGJ:GF 25 [.tmp 2] .pass Tryz.f158:=⟨_,by conv=>lhs;cbv⟩
def aFc:GF 4 [.tmp 2] .pass Tryz.f159:=⟨_,by conv=>lhs;cbv⟩
def aFa:GF 4 [.tmp 1] .pass Tryz.f163:=⟨_,by conv=>lhs;cbv⟩
def aGf:GF 21 [.tmp 1] .pass Tryz.f170:=⟨_,by conv=>lhs;cbv⟩
def aGB:GF 17 [.tmp 1] .pass Tryz.f171 (kpL aM [] [[0],[0]]):=⟨_,by conv=>lhs;reduce⟩
def aQl:GF 2 [.cell 0 226] .shut Tryz.f175:=⟨_,by conv=>lhs;cbv⟩
def aIx:GF 23 [] .pass Tryz.f183 (kpL aM [] [[0,1]]):=⟨_,by conv=>lhs;reduce⟩
def aGr:GF 12 [.tmp 4] .shut Tryz.f187:=⟨_,by conv=>lhs;cbv⟩
def aCg:GF 36 [.cell 6 36,.tmp 7] .pass Tryz.f189:=⟨_,by conv=>lhs;cbv⟩
def aAe:GF 71 [.cell 4 90,.tmp 5,.tmp 6,.tmp 7] .pass Tryz.f193 (kpL aM [] [[0,1],[0,1,4],[0,1,4,8],[1,4,8,9,10],[4,8,10],[1,4,8,9],[1,4,8,9,36,37],[1,4,8,9,36,37],[1,4,8,9,11,12,36,37],[1,4,8,9,12,36,37],[1,4,8,9,36,37],[1,4,8,9],[1,4,8,13],[4,8,13],[1,4]]):=⟨_,by conv=>lhs;reduce⟩
def EY:Got (lpM aAe.m 0):=⟨_,by conv=>lhs;cbv⟩
def i5:M:=EY.m
theorem aEn:UL i5 EY.m:=ul
def aIj:GF 45 [.cell 4 58,.tmp 5,.tmp 6] .shut Tryz.f200:=⟨_,by conv=>lhs;cbv⟩
def aBI:GF 22 [] .pass Tryz.f203:=⟨_,by conv=>lhs;cbv⟩
def EF:Got (lpM aBI.m 0):=⟨_,by conv=>lhs;cbv⟩
def fZ:M:=EF.m
theorem aEk:UL fZ EF.m:=ul
def aBq:GF 40 [] .pass Tryz.f204 (kpL aM [] [[0,1,2],[0,1,2,4],[0,2,4,9,10,11],[0,2,4,9,10,11],[0,2,4,5,6,9,10,11],[0,2,4,5,7,9,10,11],[0,2,4,5,7,9,10,11],[0,2,4,9,10,11]]):=⟨_,by conv=>lhs;reduce⟩
def GN:Got (lpM aBq.m 0):=⟨_,by conv=>lhs;cbv⟩
def EA:M:=GN.m
theorem aIe:UL EA GN.m:=ul
def XI:GF 55 [.tmp 2] .shut Tryz.f215:=⟨_,by conv=>lhs;cbv⟩
def E4:Got (lpM XI.m 0):=⟨_,by conv=>lhs;cbv⟩
def QY:M:=E4.m
theorem aIf:UL QY E4.m:=ul
def aFE:GF 14 [.tmp 2] .pass Tryz.f217:=⟨_,by conv=>lhs;cbv⟩
def aQg:GF 2 [.cell 0 369] .shut Tryz.f225:=⟨_,by conv=>lhs;cbv⟩
def aDz:GF 25 [.tmp 4] .shut Tryz.f229 (kpL aM [] [[0,1],[1,2],[1,5,6],[],[1,5]]):=⟨_,by conv=>lhs;reduce⟩
def aI0:GF 5 [] .pass Tryz.f230:=⟨_,by conv=>lhs;cbv⟩
def aH5:GF 26 [] .pass Tryz.f234 (kpL aM [] [[0],[0]]):=⟨_,by conv=>lhs;reduce⟩
def aGA:GF 15 [] .pass Tryz.f235 (kpL aM [] [[0]]):=⟨_,by conv=>lhs;reduce⟩
def aIw:GF 11 [] .pass Tryz.f241:=⟨_,by conv=>lhs;cbv⟩
def ZU:GF 143 [.tmp 4] .shut Tryz.f250:=⟨_,by conv=>lhs;cbv⟩
def aBd:GF 19 [.tmp 4] .shut Tryz.f255:=⟨_,by conv=>lhs;cbv⟩
def GK:Got (lpM aBd.m 0):=⟨_,by conv=>lhs;cbv⟩
def RE:M:=GK.m
theorem aHH:UL RE GK.m:=ul
def aF3:GF 9 [.tmp 1] .pass Tryz.f257 (kpL aM [] [[0],[0]]):=⟨_,by conv=>lhs;reduce⟩
def aGX:GF 8 [.tmp 1] .pass Tryz.f259:=⟨_,by conv=>lhs;cbv⟩
def aFW:GF 15 [.tmp 4] .pass Tryz.f261:=⟨_,by conv=>lhs;cbv⟩
def aF4:GF 64 [.tmp 2] .pass Tryz.f264:=⟨_,by conv=>lhs;cbv⟩
def aGD:GF 26 [.tmp 1] .pass Tryz.f266 (kpL aM [] [[0],[0]]):=⟨_,by conv=>lhs;reduce⟩
def aDZ:GF 8 [] .pass Tryz.f278:=⟨_,by conv=>lhs;cbv⟩
def aGu:GF 13 [] .pass Tryz.f279 (kpL aM [] [[0]]):=⟨_,by conv=>lhs;reduce⟩
def aFT:GF 76 [.cell 6 90,.tmp 7] .shut Tryz.f286 (kpL aM [] [[0,1,2],[3,4,5,6],[4,6],[3,4,5,6],[4,6],[3,4,5,6],[3,4,5,6,8,9,10],[4,5,6,8,9],[4,6],[3,4,5,6,8],[4,5,6,8,9,11],[4,6],[4,5,6,8,9],[4,6,8,9],[4,6]]):=⟨_,by conv=>lhs;reduce⟩
def aDb:GF 36 [] .pass Tryz.f290 (kpL aM [] [[0,1],[0,1],[1]]):=⟨_,by conv=>lhs;reduce⟩
def aEs:GF 34 [] .pass Tryz.f291 (kpL aM [] [[0,1],[0,6,7,8],[0,6,7,8],[0,5,6,7,8],[0,5,6,7,8],[0,6,7,8]]):=⟨_,by conv=>lhs;reduce⟩
def aI6:GF 6 [.cell 2 54] .shut Tryz.f292:=⟨_,by conv=>lhs;cbv⟩
def aAr:GF 23 [] .pass Tryz.f300 (kpL aM [] [[0,1],[0,1,3,4],[0,1,3],[0,1,3],[0,1,3],[0,1,22]]):=⟨_,by conv=>lhs;reduce⟩
def FD:Got (lpM aAr.m 0):=⟨_,by conv=>lhs;cbv⟩
def y9:M:=FD.m
theorem aEX:UL y9 FD.m:=ul
def aMv:GF 22 [] .pass Tryz.f303 (kpL aM [] [[0,1,2],[0,1,2],[0,2]]):=⟨_,by conv=>lhs;reduce⟩
def YH:GF 37 [.tmp 2] .shut Tryz.f304:=⟨_,by conv=>lhs;cbv⟩
def FN:Got (lpM YH.m 0):=⟨_,by conv=>lhs;cbv⟩
def FU:M:=FN.m
theorem aHD:UL FU FN.m:=ul
def aF5:GF 28 [.cell 4 85] .shut Tryz.f308 (kpL aM [] [[0,1],[1,2,4],[2,4],[1,2,4]]):=⟨_,by conv=>lhs;reduce⟩
def US:GF 50 [] .pass Tryz.f314 (kpL aM [] [[0],[0],[0],[0],[0]]):=⟨_,by conv=>lhs;reduce⟩
def GY:Got (lpM US.m 0):=⟨_,by conv=>lhs;cbv⟩
def Q8:M:=GY.m
theorem aEx:UL Q8 GY.m:=ul
def EK:Got (lpM US.m 1):=⟨_,by conv=>lhs;cbv⟩
def UC:M:=EK.m
theorem aIF:UL UC EK.m:=ul
def aIi:GF 51 [.cell 2 349] .pass Tryz.f316 (kpL aM [] [[0],[0,2],[0,2,3,4],[0,2,3,4,17],[0,2],[0,2,3,4,17],[0,2],[0,2,3,4],[0,2,3,4,5],[0,2,3,5]]):=⟨_,by conv=>lhs;reduce⟩
def aKL:GF 6 [.tmp 2] .shut Tryz.f319:=⟨_,by conv=>lhs;cbv⟩
def aD9:GF 15 [.cell 4 54] .shut Tryz.f321:=⟨_,by conv=>lhs;cbv⟩
def aIX:GF 16 [.cell 4 54] .shut Tryz.f323:=⟨_,by conv=>lhs;cbv⟩
def aC3:GF 29 [.tmp 2] .pass Tryz.f326:=⟨_,by conv=>lhs;cbv⟩
def G2:Got (lpM aC3.m 0):=⟨_,by conv=>lhs;cbv⟩
def R8:M:=G2.m
theorem aFk:UL R8 G2.m:=ul
def aLs:GF 14 [.tmp 2] .shut Tryz.f328:=⟨_,by conv=>lhs;cbv⟩
