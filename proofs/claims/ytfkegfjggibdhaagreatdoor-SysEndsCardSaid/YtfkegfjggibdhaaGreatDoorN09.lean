/- The evaluator's context: types and bodies, and that they are the program's. Printed by wip/ev/gen/ctx.py. -/
import Derived.Test.YtfkegfjggibdhaaGreatDoorN08
set_option linter.all false
namespace Go.Proofs.YtfkegfjggibdhaaGreatDoor.Ev
open Go Go.RowKit
set_option maxRecDepth 100000
def g12:GF 16 [.tmp 4] .shut Tryz.f12:=⟨_,by conv=>lhs;cbv⟩
def g21:GF 35 [.tmp 2] .shut Tryz.f21:=⟨_,by conv=>lhs;cbv⟩
def MF:Got (lpM g21.m 0):=⟨_,by conv=>lhs;cbv⟩
def WL:M:=MF.m
theorem aSd:UL WL MF.m:=ul
def g30:GF 2 [.cell 0 95] .norm Tryz.f30:=⟨_,by conv=>lhs;cbv⟩
def g39:GF 29 [.tmp 4,.tmp 5] .pass Tryz.f39 (kpL aL [] [[0,1],[0,3],[],[0,3],[3,6,7],[],[3,6]]):=⟨_,by conv=>lhs;reduce⟩
def g40:GF 36 [.cell 2 62] .pass Tryz.f40 (kpL aL [] [[0],[1,2],[1,2],[1,2,10,11],[1,2,10,11],[1,2,3,10,11],[1,2,10,11],[1,2],[1,2],[1,2]]):=⟨_,by conv=>lhs;reduce⟩
def OX:Got (lpM g40.m 0):=⟨_,by conv=>lhs;cbv⟩
def W4:M:=OX.m
theorem aLq:UL W4 OX.m:=ul
def g41:GF 30 [.tmp 2] .shut Tryz.f41:=⟨_,by conv=>lhs;cbv⟩
def g46:GF 96 [.tmp 6] .shut Tryz.f46:=⟨_,by conv=>lhs;cbv⟩
def g53:GF 10 [.tmp 2] .shut Tryz.f53:=⟨_,by conv=>lhs;cbv⟩
def g64:GF 6 [.tmp 4] .pass Tryz.f64:=⟨_,by conv=>lhs;cbv⟩
def g78:GF 8 [.tmp 2] .pass Tryz.f78:=⟨_,by conv=>lhs;cbv⟩
def g80:GF 17 [.tmp 4] .pass Tryz.f80:=⟨_,by conv=>lhs;cbv⟩
def g83:GF 4 [.tmp 2] .pass Tryz.f83:=⟨_,by conv=>lhs;cbv⟩
def g99:GF 5 [.tmp 2] .pass Tryz.f99:=⟨_,by conv=>lhs;cbv⟩
def aWn:GF 22 [.tmp 2] .shut Tryz.f103 (kpL aL [3] [[0],[1,2],[],[1,2],[1,2,3],[3,10,11],[3,4,11],[3,4,5],[3,4],[3]]):=⟨_,by conv=>lhs;reduce⟩
def aLh:GF 20 [] .pass Tryz.f110 (kpL aL [] [[0,1,2],[0,1,2,4],[0,1,2,4],[0,1,2,4]]):=⟨_,by conv=>lhs;reduce⟩
def aQ4:GF 9 [.tmp 2] .shut Tryz.f112:=⟨_,by conv=>lhs;cbv⟩
def aPL:GF 56 [.cell 4 88] .shut Tryz.f116 (kpL aL [] [[0,1],[0,3,4],[4],[0,3,4],[3,4,5],[3,4,5,19],[4,5],[3,4,5,19],[3,4,5,19],[3,4,5,19],[3,4,5],[3,4,5,19],[3,4,5],[4]]):=⟨_,by conv=>lhs;reduce⟩
def aPq:GF 12 [.tmp 10] .pass Tryz.f119:=⟨_,by conv=>lhs;cbv⟩
def aNd:GF 75 [.cell 10 90,.tmp 11,.tmp 12,.tmp 13] .shut Tryz.f125 (kpL aL [] [[0,1,2,3,4],[2,5,6,8,9,10],[8,10],[2,5,6,8,9,10],[2,5,6,8,9,10,14],[2,5,6,8,9,10,14,16,17],[8,10],[2,5,6,8,9,10,14,16],[5,9,10,18],[5,10,18]]):=⟨_,by conv=>lhs;reduce⟩
def aKU:GF 10 [] .pass Tryz.f126:=⟨_,by conv=>lhs;cbv⟩
def aNv:GF 9 [.tmp 4] .norm Tryz.f129:=⟨_,by conv=>lhs;cbv⟩
def aEL:GF 19 [.tmp 4] .shut Tryz.f132 (kpL aL [] [[0,1],[0,3],[0,3,7,8],[0,3,7,8],[0,3,5,7,8],[5],[0,3,7,8],[]]):=⟨_,by conv=>lhs;reduce⟩
def G3:Got (lpM aEL.m 0):=⟨_,by conv=>lhs;cbv⟩
def QB:M:=G3.m
theorem aHy:UL QB G3.m:=ul
def aGh:GF 19 [.tmp 4] .shut Tryz.f136:=⟨_,by conv=>lhs;cbv⟩
def EK:Got (lpM aGh.m 0):=⟨_,by conv=>lhs;cbv⟩
def P2:M:=EK.m
theorem aFR:UL P2 EK.m:=ul
def aWL:GF 22 [] .pass Tryz.f142 (kpL aL [] [[0,1,2,3,4]]):=⟨_,by conv=>lhs;reduce⟩
def aXv:GF 5 [.tmp 2] .shut Tryz.f152:=⟨_,by conv=>lhs;cbv⟩
def aX1:GF 8 [.tmp 4] .pass Tryz.f154:=⟨_,by conv=>lhs;cbv⟩
def aHj:GF 13 [.tmp 4,.tmp 5,.tmp 6] .shut Tryz.f155:=⟨_,by conv=>lhs;cbv⟩
def aUx:GF 65 [.tmp 4] .shut Tryz.f156:=⟨_,by conv=>lhs;cbv⟩
def aMc:GF 25 [.tmp 2] .pass Tryz.f158:=⟨_,by conv=>lhs;cbv⟩
def aRf:GF 4 [.tmp 2] .pass Tryz.f159:=⟨_,by conv=>lhs;cbv⟩
def N7:GF 36 [] .pass Tryz.f173:=⟨_,by conv=>lhs;cbv⟩
def EH:Got (lpM N7.m 0):=⟨_,by conv=>lhs;cbv⟩
def PU:M:=EH.m
theorem aG8:UL PU EH.m:=ul
def GU:Got (lpM N7.m 1):=⟨_,by conv=>lhs;cbv⟩
def RF:M:=GU.m
theorem aE7:UL RF GU.m:=ul
def HC:Got (lpM N7.m 2):=⟨_,by conv=>lhs;cbv⟩
def RG:M:=HC.m
theorem aHq:UL RG HC.m:=ul
def EB:Got (lpM N7.m 3):=⟨_,by conv=>lhs;cbv⟩
def SK:M:=EB.m
theorem aHv:UL SK EB.m:=ul
def aUA:GF 2 [.cell 0 226] .shut Tryz.f174:=⟨_,by conv=>lhs;cbv⟩
def aKA:GF 15 [.cell 2 95] .pass Tryz.f177:=⟨_,by conv=>lhs;cbv⟩
def aJ2:GF 27 [.cell 4 90,.tmp 5] .shut Tryz.f184:=⟨_,by conv=>lhs;cbv⟩
def aJo:GF 20 [] .pass Tryz.f185 (kpL aL [] [[0,1,2,3]]):=⟨_,by conv=>lhs;reduce⟩
def aRp:GF 21 [.tmp 6,.tmp 7] .shut Tryz.f190 (kpL aL [] [[0,1,2],[2,3,4],[],[2,3,4],[2,4,8]]):=⟨_,by conv=>lhs;reduce⟩
def aOR:GF 14 [.tmp 3] .pass Tryz.f191:=⟨_,by conv=>lhs;cbv⟩
def aEY:GF 71 [.cell 4 90,.tmp 5,.tmp 6,.tmp 7] .pass Tryz.f193 (kpL aL [] [[0,1],[0,1,4],[0,1,4,8],[1,4,8,9,10],[4,8,10],[1,4,8,9],[1,4,8,9,36,37],[1,4,8,9,36,37],[1,4,8,9,11,12,36,37],[1,4,8,9,12,36,37],[1,4,8,9,36,37],[1,4,8,9],[1,4,8,13],[4,8,13],[1,4]]):=⟨_,by conv=>lhs;reduce⟩
def F2:Got (lpM aEY.m 0):=⟨_,by conv=>lhs;cbv⟩
def FY:M:=F2.m
theorem aFF:UL FY F2.m:=ul
def aP0:GF 18 [.tmp 10] .pass Tryz.f194:=⟨_,by conv=>lhs;cbv⟩
def aFO:GF 22 [] .pass Tryz.f203:=⟨_,by conv=>lhs;cbv⟩
def EZ:Got (lpM aFO.m 0):=⟨_,by conv=>lhs;cbv⟩
def RE:M:=EZ.m
theorem aGP:UL RE EZ.m:=ul
def aAe:GF 53 [] .pass Tryz.f207 (kpL aL [] [[0,1,2,3],[0,1,2,3,8],[0,1,2,3,8],[0,1,2,3,8],[0,1,2,3,8,9],[0,1,2,3,8,9],[0,1,2,3,8,9]]):=⟨_,by conv=>lhs;reduce⟩
def G1:Got (lpM aAe.m 0):=⟨_,by conv=>lhs;cbv⟩
def Q4:M:=G1.m
theorem aGd:UL Q4 G1.m:=ul
def EU:Got (lpM aAe.m 1):=⟨_,by conv=>lhs;cbv⟩
def RK:M:=EU.m
theorem aGH:UL RK EU.m:=ul
def aXG:GF 220 [] .pass Tryz.f208 (kpL aL [] [[0,1,2,3,4],[0,1,2,3,4],[0,1,3,4,10],[0,1,4,10,11],[0,1,4,10,11],[0,1,4,10,11,12],[0,1,4,11,12],[0,1,4,10,12],[0,1,10],[0,10,13],[0,10,13],[0,10,13],[0,1,2,3,4],[0,1,2,4],[0,2,4,14],[0,2,4,14,15],[0,2,4,14,15],[0,2,4,14,15,16],[0,2,4,15,16],[0,2,4,14,16],[0,2,14],[0,14,17],[0,14,17],[0,14,17],[0,1,2,3,4],[0,1,2,3,4,18],[0,1,2,3,4,18,19],[0,1,2,3,4,18,19],[0,1,2,3,4,18,19],[0,1,2,3,4,18,19,20],[0,1,2,3,4,18,19],[0,1,2,3,4,18,19,20],[0,1,2,3,4,18,19,20,21],[0,1,2,3,4,18,19,20,21,22],[0,1,2,3,4,18,19,20,21,22],[0,1,2,3,4,18,19,20,21,22,23],[0,1,2,3,4,18,19,21,22,23],[0,1,2,3,4,18,19,20,22,23],[0,1,2,3,4,18,19,20],[0,1,2,3,4,18,20,24],[0,1,2,3,4,18,20,24],[0,1,3,4,18,20,24],[0,1,3,4,18,20,24],[0,3,4,18,24],[0,3,4,18,24]]):=⟨_,by conv=>lhs;reduce⟩
def aUn:GF 29 [.tmp 4,.tmp 5] .shut Tryz.f210:=⟨_,by conv=>lhs;cbv⟩
def PE:GF 53 [] .pass Tryz.f213:=⟨_,by conv=>lhs;cbv⟩
def FK:Got (lpM PE.m 0):=⟨_,by conv=>lhs;cbv⟩
def SG:M:=FK.m
theorem aEB:UL SG FK.m:=ul
def ED:Got (lpM PE.m 1):=⟨_,by conv=>lhs;cbv⟩
def QP:M:=ED.m
theorem aFi:UL QP ED.m:=ul
def EM:Got (lpM PE.m 2):=⟨_,by conv=>lhs;cbv⟩
def Q8:M:=EM.m
theorem aED:UL Q8 EM.m:=ul
def HB:Got (lpM PE.m 3):=⟨_,by conv=>lhs;cbv⟩
def PN:M:=HB.m
theorem aHL:UL PN HB.m:=ul
def aAf:GF 27 [.cell 2 344,.cell 3 3,.cell 4 63] .shut Tryz.f214 (kpL aL [2,3,4] [[0],[0,2,3,4],[2,3,4],[0,2,3,4],[2,3,4,5],[2,3,4,15,16],[2,3,4,6,16],[2,3,4,6,7],[2,3,4,6,7],[2,6],[2,3,4]]):=⟨_,by conv=>lhs;reduce⟩
def FL:Got (lpM aAf.m 0):=⟨_,by conv=>lhs;cbv⟩
def rS:M:=FL.m
theorem aFb:UL rS FL.m:=ul
def G9:Got (lpM aAf.m 1):=⟨_,by conv=>lhs;cbv⟩
def rM:M:=G9.m
theorem aFA:UL rM G9.m:=ul
def aLQ:GF 9 [.tmp 4] .shut Tryz.f216:=⟨_,by conv=>lhs;cbv⟩
def aYu:GF 7 [.tmp 0] .shut Tryz.f219:=⟨_,by conv=>lhs;cbv⟩
def aNt:GF 22 [.tmp 4,.tmp 5] .shut Tryz.f224 (kpL aL [] [[0,1],[2,3],[],[2,3],[2,6]]):=⟨_,by conv=>lhs;reduce⟩
def aQP:GF 101 [.tmp 4] .pass Tryz.f226 (kpL aL [] [[0,1],[0,1],[0,1],[0,12],[0],[0,12],[0,12],[0,12],[0,12],[0],[0],[0],[0,5,6],[6],[0,5],[0],[0],[0],[0],[]]):=⟨_,by conv=>lhs;reduce⟩
def aKz:GF 30 [.tmp 4] .shut Tryz.f228:=⟨_,by conv=>lhs;cbv⟩
def aIT:GF 25 [.tmp 4] .shut Tryz.f229 (kpL aL [] [[0,1],[1,2],[1,5,6],[],[1,5]]):=⟨_,by conv=>lhs;reduce⟩
def aQj:GF 20 [] .pass Tryz.f231 (kpL aL [] [[0]]):=⟨_,by conv=>lhs;reduce⟩
def aRc:GF 22 [] .pass Tryz.f233 (kpL aL [] [[0],[0]]):=⟨_,by conv=>lhs;reduce⟩
def aOe:GF 11 [] .pass Tryz.f237:=⟨_,by conv=>lhs;cbv⟩
def aQn:GF 12 [] .pass Tryz.f238:=⟨_,by conv=>lhs;cbv⟩
def aLC:GF 27 [] .pass Tryz.f240 (kpL aL [] [[0],[0],[0]]):=⟨_,by conv=>lhs;reduce⟩
def aMP:GF 20 [] .pass Tryz.f243:=⟨_,by conv=>lhs;cbv⟩
def aPp:GF 22 [.tmp 2] .shut Tryz.f253:=⟨_,by conv=>lhs;cbv⟩
def aG5:GF 19 [.tmp 4] .shut Tryz.f255:=⟨_,by conv=>lhs;cbv⟩
def GQ:Got (lpM aG5.m 0):=⟨_,by conv=>lhs;cbv⟩
def Q9:M:=GQ.m
theorem aGW:UL Q9 GQ.m:=ul
def aPU:GF 16 [.tmp 1] .pass Tryz.f256:=⟨_,by conv=>lhs;cbv⟩
def aSC:GF 8 [.tmp 1] .pass Tryz.f259:=⟨_,by conv=>lhs;cbv⟩
def aMf:GF 64 [.tmp 2] .pass Tryz.f264:=⟨_,by conv=>lhs;cbv⟩
def aO5:GF 56 [.tmp 2] .pass Tryz.f265:=⟨_,by conv=>lhs;cbv⟩
def aON:GF 26 [.tmp 1] .pass Tryz.f266 (kpL aL [] [[0],[0]]):=⟨_,by conv=>lhs;reduce⟩
def aVS:GF 45 [.cell 4 85] .shut Tryz.f267 (kpL aL [] [[0,1],[1,2,4],[1,2,4,8,9],[1,2,4,8,9],[1,2,4,5,8,9],[1,2,4,5],[1,2,4,8,9],[1,2,4],[2,4]]):=⟨_,by conv=>lhs;reduce⟩
def aXl:GF 7 [.cell 4 85] .shut Tryz.f269:=⟨_,by conv=>lhs;cbv⟩
def aSx:GF 55 [.tmp 4,.tmp 5] .pass Tryz.f271:=⟨_,by conv=>lhs;cbv⟩
def aO8:GF 15 [] .pass Tryz.f276:=⟨_,by conv=>lhs;cbv⟩
def aJU:GF 92 [] .pass Tryz.f284 (kpL aL [] [[0],[0,2],[0,2],[0,2,3],[0,2,3,4],[0,2,3,4],[0,2,3,4],[0,2,3,4]]):=⟨_,by conv=>lhs;reduce⟩
def aGq:GF 29 [] .pass Tryz.f289 (kpL aL [] [[0,1],[1,4],[1,4,17],[1,4,17],[1,4,5,17],[1,4,5,17],[1,4,17]]):=⟨_,by conv=>lhs;reduce⟩
def EV:Got (lpM aGq.m 0):=⟨_,by conv=>lhs;cbv⟩
def EN:M:=EV.m
theorem aDX:UL EN EV.m:=ul
def aTY:GF 38 [] .pass Tryz.f294 (kpL aL [] [[0,1,2,3],[0,1,2,3,10],[0,1,2,3,10],[0,1,2,3,10]]):=⟨_,by conv=>lhs;reduce⟩
def aF6:GF 37 [.tmp 2] .shut Tryz.f304:=⟨_,by conv=>lhs;cbv⟩
def FV:Got (lpM aF6.m 0):=⟨_,by conv=>lhs;cbv⟩
def F5:M:=FV.m
theorem aDT:UL F5 FV.m:=ul
def aPH:GF 27 [.tmp 4] .shut Tryz.f307:=⟨_,by conv=>lhs;cbv⟩
def aSK:GF 13 [.tmp 2] .pass Tryz.f317 (kpL aL [] [[0],[0]]):=⟨_,by conv=>lhs;reduce⟩
def aWY:GF 6 [.tmp 2] .shut Tryz.f319:=⟨_,by conv=>lhs;cbv⟩
def aFg:GF 28 [.tmp 2] .pass Tryz.f325:=⟨_,by conv=>lhs;cbv⟩
def GJ:Got (lpM aFg.m 0):=⟨_,by conv=>lhs;cbv⟩
def R3:M:=GJ.m
theorem aEc:UL R3 GJ.m:=ul
def aD5:GF 29 [.tmp 2] .pass Tryz.f326:=⟨_,by conv=>lhs;cbv⟩
def D7:Got (lpM aD5.m 0):=⟨_,by conv=>lhs;cbv⟩
def RP:M:=D7.m
theorem aGp:UL RP D7.m:=ul
def g6:GF 113 [.tmp 6] .shut Tryz.f6 (kpL aL [] [[0,1,2],[1,2,3],[],[1,2,3],[2,3,7],[],[2,3],[2,3,8],[2,3,8,10],[2,3,8,10],[2,3,8,10],[2,3,8,10,11],[],[2,3,8,10,11],[3,8],[2,3,8,10,11],[2,3,8,10,11,12],[2,3,8,10,11,12],[2,3,8,10,11,12],[2,3,8,10,11,12],[2,3,8,10,12],[2,3,8,10,13,15],[],[2,3,8,10,13],[]]):=⟨_,by conv=>lhs;reduce⟩
def aCS:Got (lpM g6.m 0):=⟨_,by conv=>lhs;cbv⟩
def aIt:M:=aCS.m
theorem aYy:UL aIt aCS.m:=ul
def g8:GF 86 [.tmp 0] .shut Tryz.f8:=⟨_,by conv=>lhs;cbv⟩
def g18:GF 28 [.cell 6 81,.tmp 7] .shut Tryz.f18:=⟨_,by conv=>lhs;cbv⟩
def g27:GF 26 [.tmp 4] .shut Tryz.f27 (kpL aL [] [[0,1],[0,1],[],[0,1],[0,1,5],[0,1,5],[0,1,5],[],[]]):=⟨_,by conv=>lhs;reduce⟩
def g28:GF 37 [.cell 2 42,.tmp 3] .shut Tryz.f28:=⟨_,by conv=>lhs;cbv⟩
def g31:GF 17 [.cell 4 90] .shut Tryz.f31:=⟨_,by conv=>lhs;cbv⟩
def g35:GF 12 [.cell 6 58] .shut Tryz.f35 (kpL aL [] [[0,1,2],[0,1,5,6]]):=⟨_,by conv=>lhs;reduce⟩
def g38:GF 4 [.tmp 2] .pass Tryz.f38:=⟨_,by conv=>lhs;cbv⟩
def g43:GF 10 [.cell 2 136,.tmp 3] .shut Tryz.f43:=⟨_,by conv=>lhs;cbv⟩
def g44:GF 8 [.tmp 6] .pass Tryz.f44:=⟨_,by conv=>lhs;cbv⟩
def g47:GF 23 [.tmp 4] .pass Tryz.f47:=⟨_,by conv=>lhs;cbv⟩
def g48:GF 6 [.tmp 2] .shut Tryz.f48:=⟨_,by conv=>lhs;cbv⟩
def g56:GF 40 [.tmp 4] .pass Tryz.f56 (kpL aL [] [[0,1],[0,1],[0,1,13,14,15],[0,1,13,14,15],[0,1,6,13,14,15],[0,1,7,8,13,14,15],[8],[0,1,7,13,14,15],[0,1,13,14,15],[]]):=⟨_,by conv=>lhs;reduce⟩
def MC:Got (lpM g56.m 0):=⟨_,by conv=>lhs;cbv⟩
def YF:M:=MC.m
theorem aKt:UL YF MC.m:=ul
def g58:GF 35 [.tmp 4] .shut Tryz.f58:=⟨_,by conv=>lhs;cbv⟩
def g60:GF 18 [.tmp 2] .shut Tryz.f60:=⟨_,by conv=>lhs;cbv⟩
def g62:GF 32 [.cell 4 90,.tmp 5] .shut Tryz.f62:=⟨_,by conv=>lhs;cbv⟩
def g69:GF 47 [.tmp 4,.tmp 5] .pass Tryz.f69 (kpL aL [] [[0,1],[0,3],[0,3,6],[0,6,7,8,9,10]]):=⟨_,by conv=>lhs;reduce⟩
def g72:GF 96 [] .pass Tryz.f72 (kpL aL [] [[0,1],[0,1,3],[0,1,3,20,21],[0,1,3,20,21],[0,1,3,5,20,21],[0,1,3,5,20,21,24,25],[0,1,3,5,20,21,24,25],[0,1,3,5,6,20,21,24,25],[0,1,3,5,20,21,24,25],[0,1,3,20,21],[0,1,3],[0,1,36,37],[0,1,36,37],[0,1,7,36,37],[0,1,7,36,37,46,47],[0,1,7,36,37,46,47],[0,1,7,8,36,37,46,47],[0,1,7,36,37,46,47],[0,1,36,37],[0,1],[0,1,9],[0,1,9,69,70,71],[0,1,9,69,70,71],[0,1,9,11,69,70,71],[0,1,9,12,69,70,71],[0,1,9,12,69,70,71],[0,1,9,12,69,70,71],[0,1,9,69,70,71]]):=⟨_,by conv=>lhs;reduce⟩
def O4:Got (lpM g72.m 1):=⟨_,by conv=>lhs;cbv⟩
def X6:M:=O4.m
theorem aJ6:UL X6 O4.m:=ul
def LW:Got (lpM g72.m 2):=⟨_,by conv=>lhs;cbv⟩
def aA8:M:=LW.m
theorem aS0:UL aA8 LW.m:=ul
def M4:Got (lpM g72.m 3):=⟨_,by conv=>lhs;cbv⟩
def WA:M:=M4.m
theorem aNl:UL WA M4.m:=ul
def MS:Got (lpM g72.m 4):=⟨_,by conv=>lhs;cbv⟩
def aDi:M:=MS.m
theorem aK7:UL aDi MS.m:=ul
def g74:GF 9 [.tmp 4] .shut Tryz.f74:=⟨_,by conv=>lhs;cbv⟩
def g75:GF 59 [.tmp 4] .pass Tryz.f75 (kpL aL [] [[0,1],[0,3],[0,3,5],[0,3,5,23],[0,3,5,23],[0,3,5,23],[3,5],[0,3,5,23],[0,3,5],[3,23],[3],[]]):=⟨_,by conv=>lhs;reduce⟩
def g79:GF 8 [.tmp 2] .norm Tryz.f79:=⟨_,by conv=>lhs;cbv⟩
def g91:GF 10 [.tmp 4] .shut Tryz.f91:=⟨_,by conv=>lhs;cbv⟩
def aRj:GF 1 [.tmp 0] .pass Tryz.f106:=⟨_,by conv=>lhs;cbv⟩
def aSz:GF 42 [.tmp 4] .shut Tryz.f107:=⟨_,by conv=>lhs;cbv⟩
def aL0:GF 27 [.tmp 4] .pass Tryz.f108 (kpL aL [] [[0,1],[1,2],[1,2],[1,2]]):=⟨_,by conv=>lhs;reduce⟩
def aS1:GF 8 [.cell 4 85] .shut Tryz.f109:=⟨_,by conv=>lhs;cbv⟩
def aQp:GF 20 [] .pass Tryz.f113 (kpL aL [] [[0,1,2]]):=⟨_,by conv=>lhs;reduce⟩
def aOc:GF 15 [.tmp 4] .pass Tryz.f122 (kpL aL [] [[0,1,2],[0,1,2]]):=⟨_,by conv=>lhs;reduce⟩
def aOL:GF 29 [.tmp 4,.cell 5 73,.tmp 6] .norm Tryz.f123 (kpL aL [] [[0,1],[0,1,5],[5],[0,1,5]]):=⟨_,by conv=>lhs;reduce⟩
def aPF:GF 20 [.tmp 4] .shut Tryz.f133:=⟨_,by conv=>lhs;cbv⟩
def aL4:GF 8 [.tmp 6] .pass Tryz.f134:=⟨_,by conv=>lhs;cbv⟩
def aDc:GF 24 [] .pass Tryz.f137:=⟨_,by conv=>lhs;cbv⟩
def FD:Got (lpM aDc.m 0):=⟨_,by conv=>lhs;cbv⟩
def QI:M:=FD.m
theorem aFC:UL QI FD.m:=ul
def ET:Got (lpM aDc.m 1):=⟨_,by conv=>lhs;cbv⟩
def RM:M:=ET.m
theorem aEH:UL RM ET.m:=ul
def aJu:GF 6 [.tmp 2] .shut Tryz.f139:=⟨_,by conv=>lhs;cbv⟩
def aNC:GF 17 [.tmp 4] .shut Tryz.f140:=⟨_,by conv=>lhs;cbv⟩
def aWb:GF 33 [] .pass Tryz.f143:=⟨_,by conv=>lhs;cbv⟩
def aTj:GF 4 [.tmp 2] .pass Tryz.f146:=⟨_,by conv=>lhs;cbv⟩
def aXc:GF 51 [.tmp 4,.tmp 5] .pass Tryz.f151:=⟨_,by conv=>lhs;cbv⟩
def aUq:GF 31 [] .pass Tryz.f153 (kpL aL [2,3,4] [[0,1,2],[1,2,3],[1,2,3,4],[2,3,4,9],[2,3,4,5],[2,3,4,5],[2,3,4,5],[3,4,6]]):=⟨_,by conv=>lhs;reduce⟩
def aUH:GF 59 [.cell 2 228,.tmp 3] .pass Tryz.f157 (kpL aL [] [[0],[0,2],[0,2,4],[2],[0,2,4,14],[0,2,4,14],[0,2,4],[0,2,4],[0,2,4,5,6],[2,4,5,6,7,8],[2],[2,4,5,7],[2,4]]):=⟨_,by conv=>lhs;reduce⟩
def aFB:GF 56 [.tmp 2] .pass Tryz.f164 (kpL aL [] [[0],[0],[],[0],[0,35,36,37],[0,35,36,37],[0,3,4,35,36,37],[],[0,35,36,37],[]]):=⟨_,by conv=>lhs;reduce⟩
def ES:Got (lpM aFB.m 0):=⟨_,by conv=>lhs;cbv⟩
def RR:M:=ES.m
theorem aEC:UL RR ES.m:=ul
def aQb:GF 6 [.tmp 2] .shut Tryz.f166:=⟨_,by conv=>lhs;cbv⟩
def aR8:GF 11 [.tmp 3] .pass Tryz.f168:=⟨_,by conv=>lhs;cbv⟩
def aWj:GF 2 [.cell 0 226] .shut Tryz.f175:=⟨_,by conv=>lhs;cbv⟩
def aLg:GF 31 [.tmp 2] .pass Tryz.f178 (kpL aL [] [[0],[0],[]]):=⟨_,by conv=>lhs;reduce⟩
def aK9:GF 23 [] .pass Tryz.f183 (kpL aL [] [[0,1]]):=⟨_,by conv=>lhs;reduce⟩
def aOE:GF 12 [.tmp 4] .shut Tryz.f187:=⟨_,by conv=>lhs;cbv⟩
def aN6:GF 23 [.cell 6 81,.tmp 7] .shut Tryz.f188:=⟨_,by conv=>lhs;cbv⟩
def aBu:GF 65 [.cell 8 81,.tmp 9] .pass Tryz.f192 (kpL aL [7,12] [[0,1,2,3],[2,4,5,7,8,9],[8],[2,4,5,7,8,9],[2,5,7,8,9,10],[5,7,8,9,10,11,12],[7,12,33,34],[7,12,13,34],[7,12,13,14],[12,13],[5,8,11,12],[5,8,11,15,16],[8],[5,8,11,15]]):=⟨_,by conv=>lhs;reduce⟩
def DX:Got (lpM aBu.m 0):=⟨_,by conv=>lhs;cbv⟩
def yU:M:=DX.m
theorem aHl:UL yU DX.m:=ul
def G0:Got (lpM aBu.m 1):=⟨_,by conv=>lhs;cbv⟩
def yS:M:=G0.m
theorem aF1:UL yS G0.m:=ul
def aL9:GF 71 [.cell 6 95] .norm Tryz.f196 (kpL aL [] [[0,1,2],[0,4,5,6],[0,5,6,7],[6,7],[6,7,8],[6,7,8],[6,7,8],[6,7],[0,5,6,7],[0,5,6,7],[0,5,6,7],[5,6,7],[5,6,7],[6,7],[6,7],[6,7]]):=⟨_,by conv=>lhs;reduce⟩
def aFH:GF 40 [] .pass Tryz.f204 (kpL aL [] [[0,1,2],[0,1,2,4],[0,2,4,9,10,11],[0,2,4,9,10,11],[0,2,4,5,6,9,10,11],[0,2,4,5,7,9,10,11],[0,2,4,5,7,9,10,11],[0,2,4,9,10,11]]):=⟨_,by conv=>lhs;reduce⟩
def GW:Got (lpM aFH.m 0):=⟨_,by conv=>lhs;cbv⟩
def FT:M:=GW.m
theorem aGy:UL FT GW.m:=ul
def aMF:GF 20 [.cell 4 171] .shut Tryz.f205 (kpL aL [] [[0,1],[1,2,4],[2,4],[2,4]]):=⟨_,by conv=>lhs;reduce⟩
def aET:GF 25 [] .pass Tryz.f206 (kpL aL [] [[0,1,2,3],[0,2,3,8,9],[0,2,3,8,9],[0,2,3,5,8,9],[0,2,3,8,9]]):=⟨_,by conv=>lhs;reduce⟩
def FG:Got (lpM aET.m 0):=⟨_,by conv=>lhs;cbv⟩
def pG:M:=FG.m
theorem aG9:UL pG FG.m:=ul
def aTt:GF 19 [.tmp 2] .shut Tryz.f209:=⟨_,by conv=>lhs;cbv⟩
def aJM:GF 14 [.tmp 2] .pass Tryz.f217:=⟨_,by conv=>lhs;cbv⟩
def aP4:GF 26 [] .pass Tryz.f234 (kpL aL [] [[0],[0]]):=⟨_,by conv=>lhs;reduce⟩
def aPf:GF 15 [] .pass Tryz.f235 (kpL aL [] [[0]]):=⟨_,by conv=>lhs;reduce⟩
def aKk:GF 11 [] .pass Tryz.f236:=⟨_,by conv=>lhs;cbv⟩
def aN3:GF 17 [] .pass Tryz.f239 (kpL aL [] [[0]]):=⟨_,by conv=>lhs;reduce⟩
def aEU:GF 143 [.tmp 4] .shut Tryz.f250:=⟨_,by conv=>lhs;cbv⟩
def aVF:GF 47 [.tmp 2] .shut Tryz.f252:=⟨_,by conv=>lhs;cbv⟩
def aOH:GF 9 [.tmp 1] .pass Tryz.f257 (kpL aL [] [[0],[0]]):=⟨_,by conv=>lhs;reduce⟩
def aJj:GF 67 [.cell 2 109] .pass Tryz.f258:=⟨_,by conv=>lhs;cbv⟩
def aRi:GF 15 [.tmp 4] .pass Tryz.f261:=⟨_,by conv=>lhs;cbv⟩
def aNH:GF 25 [.tmp 4,.tmp 5] .pass Tryz.f268:=⟨_,by conv=>lhs;cbv⟩
def aYk:GF 3 [] .pass Tryz.f273:=⟨_,by conv=>lhs;cbv⟩
def aMd:GF 8 [] .pass Tryz.f277:=⟨_,by conv=>lhs;cbv⟩
def aMi:GF 13 [] .pass Tryz.f281 (kpL aL [] [[0]]):=⟨_,by conv=>lhs;reduce⟩
def aNQ:GF 76 [.cell 6 90,.tmp 7] .shut Tryz.f286 (kpL aL [] [[0,1,2],[3,4,5,6],[4,6],[3,4,5,6],[4,6],[3,4,5,6],[3,4,5,6,8,9,10],[4,5,6,8,9],[4,6],[3,4,5,6,8],[4,5,6,8,9,11],[4,6],[4,5,6,8,9],[4,6,8,9],[4,6]]):=⟨_,by conv=>lhs;reduce⟩
def aKg:GF 36 [] .pass Tryz.f290 (kpL aL [] [[0,1],[0,1],[1]]):=⟨_,by conv=>lhs;reduce⟩
def aQl:GF 26 [.cell 4 54] .shut Tryz.f293 (kpL aL [] [[0,1],[1,2,4],[1,2,4,5,6],[2,4],[1,2,4,5]]):=⟨_,by conv=>lhs;reduce⟩
def aFK:GF 23 [] .pass Tryz.f300 (kpL aL [] [[0,1],[0,1,3,4],[0,1,3],[0,1,3],[0,1,3],[0,1,22]]):=⟨_,by conv=>lhs;reduce⟩
def E9:Got (lpM aFK.m 0):=⟨_,by conv=>lhs;cbv⟩
def y5:M:=E9.m
theorem aER:UL y5 E9.m:=ul
def aQ6:GF 45 [.tmp 4] .shut Tryz.f310 (kpL aL [6] [[0,1],[1,2,4],[],[1,2,4],[2,4,5],[5],[2,4,5],[2,5],[2,4,5],[2,4,5,6],[6,36],[6,7],[5,6]]):=⟨_,by conv=>lhs;reduce⟩
def aYp:GF 3 [.tmp 0] .shut Tryz.f311:=⟨_,by conv=>lhs;cbv⟩
def aKv:GF 46 [.tmp 2] .pass Tryz.f324 (kpL aL [] [[0],[0],[0,3],[0,3,4],[3],[3]]):=⟨_,by conv=>lhs;reduce⟩
def aKs:GF 15 [] .pass Tryz.f327:=⟨_,by conv=>lhs;cbv⟩
def aUe:GF 14 [.tmp 2] .shut Tryz.f328:=⟨_,by conv=>lhs;cbv⟩
def aSq:GF 35 [.tmp 2] .shut Tryz.f329:=⟨_,by conv=>lhs;cbv⟩
def g10:GF 84 [.cell 2 62,.tmp 3] .norm Tryz.f10 (kpL aL [] [[0],[1,2],[2],[1,2],[1,2,4],[1,2,4,15,16],[1,2,4,15,16],[1,2,4,15,16],[1,2,4,15,16],[1,2,4],[1,2,4,39,40],[1,2,4,39,40],[1,2,4,5,39,40],[1,2,4,5,6,39,40],[1,2,4,5,6,39,40,46,47,48],[1,2,4,5,6,39,40,46,47,48],[1,2,4,5,6,8,39,40,46,47,48],[1,2,4,5,6,8,39,40,46,47,48],[1,2,4,5,6,39,40,46,47,48],[1,2,4,5,6,39,40],[1,2,4,39,40],[2,4]]):=⟨_,by conv=>lhs;reduce⟩
def MU:Got (lpM g10.m 1):=⟨_,by conv=>lhs;cbv⟩
def aC0:M:=MU.m
theorem aOW:UL aC0 MU.m:=ul
def MR:Got (lpM g10.m 2):=⟨_,by conv=>lhs;cbv⟩
def aBC:M:=MR.m
theorem aNj:UL aBC MR.m:=ul
def g11:GF 36 [.tmp 4] .norm Tryz.f11 (kpL aL [5,6] [[0,1],[2,3,4],[],[2,3,4],[4,5],[4,5,6],[5,6,19],[5,6,7],[6,7,9],[6,7],[6,7,26],[6,7,26],[6,7,26],[6]]):=⟨_,by conv=>lhs;reduce⟩
def OS:Got (lpM g11.m 0):=⟨_,by conv=>lhs;cbv⟩
def wV:M:=OS.m
theorem aKR:UL wV OS.m:=ul
def OA:Got (lpM g11.m 1):=⟨_,by conv=>lhs;cbv⟩
def wB:M:=OA.m
theorem aLH:UL wB OA.m:=ul
def g17:GF 25 [.tmp 4] .shut Tryz.f17:=⟨_,by conv=>lhs;cbv⟩
def g24:GF 23 [.cell 6 44] .pass Tryz.f24:=⟨_,by conv=>lhs;cbv⟩
def g25:GF 3 [.cell 0 109] .shut Tryz.f25:=⟨_,by conv=>lhs;cbv⟩
def g26:GF 2 [.cell 0 109] .shut Tryz.f26:=⟨_,by conv=>lhs;cbv⟩
def g29:GF 61 [.tmp 2] .shut Tryz.f29:=⟨_,by conv=>lhs;cbv⟩
def g33:GF 25 [.tmp 4] .shut Tryz.f33 (kpL aL [7] [[0,1],[1,2,4],[1,4,5,6],[],[1,4,5],[1,4,5,7],[7,19],[7,8],[7]]):=⟨_,by conv=>lhs;reduce⟩
def g34:GF 23 [.cell 8 56] .shut Tryz.f34:=⟨_,by conv=>lhs;cbv⟩
def g49:GF 33 [.tmp 4] .shut Tryz.f49 (kpL aL [3,5] [[0,1],[2,3,4],[],[2,3,4],[2,3,4,5],[3,5,15,16],[3,5,6,16],[3,5,6,7],[5,8],[5,8],[5],[5]]):=⟨_,by conv=>lhs;reduce⟩
def NI:Got (lpM g49.m 0):=⟨_,by conv=>lhs;cbv⟩
def AW:M:=NI.m
theorem aMI:UL AW NI.m:=ul
def O3:Got (lpM g49.m 1):=⟨_,by conv=>lhs;cbv⟩
def A2:M:=O3.m
theorem aMm:UL A2 O3.m:=ul
def g52:GF 54 [.cell 2 42,.tmp 3] .shut Tryz.f52:=⟨_,by conv=>lhs;cbv⟩
def g55:GF 12 [.tmp 2] .shut Tryz.f55:=⟨_,by conv=>lhs;cbv⟩
def g57:GF 8 [.tmp 3] .shut Tryz.f57:=⟨_,by conv=>lhs;cbv⟩
def g59:GF 15 [.tmp 6] .shut Tryz.f59:=⟨_,by conv=>lhs;cbv⟩
def g73:GF 19 [.tmp 4] .norm Tryz.f73 (kpL aL [5] [[0,1],[0,1,4],[],[0,1,4],[0,1,4,5],[5,13],[5,6],[5]]):=⟨_,by conv=>lhs;reduce⟩
def NB:Got (lpM g73.m 0):=⟨_,by conv=>lhs;cbv⟩
def FB:M:=NB.m
theorem aI1:UL FB NB.m:=ul
def LY:Got (lpM g73.m 1):=⟨_,by conv=>lhs;cbv⟩
def G4:M:=LY.m
theorem aKm:UL G4 LY.m:=ul
def g77:GF 8 [.tmp 2] .norm Tryz.f77:=⟨_,by conv=>lhs;cbv⟩
def g81:GF 10 [.tmp 4] .shut Tryz.f81:=⟨_,by conv=>lhs;cbv⟩
def g82:GF 22 [.cell 8 3,.cell 9 4] .pass Tryz.f82 (kpL aL [7,8,9] [[0,1,2,3],[1,2,4,7,8,9],[7,8,9,16,17],[7,8,9,10,17],[7,8,9,10,11],[8,9,10],[8,9]]):=⟨_,by conv=>lhs;reduce⟩
def MJ:Got (lpM g82.m 0):=⟨_,by conv=>lhs;cbv⟩
def pW:M:=MJ.m
theorem aJW:UL pW MJ.m:=ul
def OI:Got (lpM g82.m 1):=⟨_,by conv=>lhs;cbv⟩
def pT:M:=OI.m
theorem aOn:UL pT OI.m:=ul
def g84:GF 13 [.tmp 5] .pass Tryz.f84:=⟨_,by conv=>lhs;cbv⟩
def g85:GF 26 [.tmp 4,.tmp 5] .shut Tryz.f85:=⟨_,by conv=>lhs;cbv⟩
def NY:Got (lpM g85.m 0):=⟨_,by conv=>lhs;cbv⟩
def aBI:M:=NY.m
theorem aMH:UL aBI NY.m:=ul
def g86:GF 9 [.tmp 4] .shut Tryz.f86:=⟨_,by conv=>lhs;cbv⟩
def g90:GF 9 [] .pass Tryz.f90:=⟨_,by conv=>lhs;cbv⟩
def g92:GF 20 [.tmp 4] .shut Tryz.f92:=⟨_,by conv=>lhs;cbv⟩
def g96:GF 95 [] .pass Tryz.f96:=⟨_,by conv=>lhs;cbv⟩
def g97:GF 60 [] .pass Tryz.f97:=⟨_,by conv=>lhs;cbv⟩
def aEG:GF 32 [.tmp 2] .shut Tryz.f100:=⟨_,by conv=>lhs;cbv⟩
def G2:Got (lpM aEG.m 0):=⟨_,by conv=>lhs;cbv⟩
def FP:M:=G2.m
theorem aEq:UL FP G2.m:=ul
def aMs:GF 18 [.tmp 2] .pass Tryz.f105:=⟨_,by conv=>lhs;cbv⟩
def aI9:GF 13 [.tmp 2] .shut Tryz.f111:=⟨_,by conv=>lhs;cbv⟩
def aLK:GF 40 [.tmp 8,.tmp 9] .pass Tryz.f115 (kpL aL [] [[0,1,2,3],[4,5,6,7],[],[4,5,6,7],[4,5,7,10,11],[11],[4,5,7,10]]):=⟨_,by conv=>lhs;reduce⟩
def aGQ:GF 19 [.tmp 4] .pass Tryz.f121:=⟨_,by conv=>lhs;cbv⟩
def GV:Got (lpM aGQ.m 0):=⟨_,by conv=>lhs;cbv⟩
def QD:M:=GV.m
theorem aF3:UL QD GV.m:=ul
def aMA:GF 20 [] .pass Tryz.f128 (kpL aL [] [[0,1,2,3,4],[1,3,4]]):=⟨_,by conv=>lhs;reduce⟩
def aQo:GF 9 [.tmp 2] .shut Tryz.f130:=⟨_,by conv=>lhs;cbv⟩
def aLZ:GF 63 [] .pass Tryz.f138:=⟨_,by conv=>lhs;cbv⟩
def aWd:GF 17 [] .pass Tryz.f144:=⟨_,by conv=>lhs;cbv⟩
def aUg:GF 22 [] .pass Tryz.f145 (kpL aL [] [[0,1,2,3,4]]):=⟨_,by conv=>lhs;reduce⟩
def aUv:GF 13 [.cell 5 36,.tmp 6] .pass Tryz.f147 (kpL aL [] [[0,1,2],[1,2,5]]):=⟨_,by conv=>lhs;reduce⟩
def aVa:GF 33 [.cell 4 36,.tmp 5] .pass Tryz.f149 (kpL aL [] [[0,1],[1,2,4],[1,2,4,6,7],[4],[1,2,4,6],[4,6,7,8]]):=⟨_,by conv=>lhs;reduce⟩
def aRs:GF 21 [.tmp 2] .pass Tryz.f165:=⟨_,by conv=>lhs;cbv⟩
def aC2:GF 43 [.tmp 4] .shut Tryz.f169:=⟨_,by conv=>lhs;cbv⟩
def D5:Got (lpM aC2.m 0):=⟨_,by conv=>lhs;cbv⟩
def QJ:M:=D5.m
theorem aHk:UL QJ D5.m:=ul
def EC:Got (lpM aC2.m 1):=⟨_,by conv=>lhs;cbv⟩
def QU:M:=EC.m
theorem aGO:UL QU EC.m:=ul
def aRw:GF 10 [.tmp 6] .shut Tryz.f172:=⟨_,by conv=>lhs;cbv⟩
def aWM:GF 43 [.cell 4 85] .shut Tryz.f176:=⟨_,by conv=>lhs;cbv⟩
def aLv:GF 36 [.tmp 2] .pass Tryz.f179 (kpL aL [] [[0],[0],[0],[]]):=⟨_,by conv=>lhs;reduce⟩
def aGn:GF 36 [.cell 6 36,.tmp 7] .pass Tryz.f189:=⟨_,by conv=>lhs;cbv⟩
def aG2:GF 62 [] .pass Tryz.f195 (kpL aL [] [[0,1,2,3,4],[1,2,3,4],[1,2,4],[1,2,4,26,27,28],[1,2,4,26,27,28],[1,2,4,6,26,27,28],[1,2,4,26,27,28],[1,4]]):=⟨_,by conv=>lhs;reduce⟩
def HE:Got (lpM aG2.m 0):=⟨_,by conv=>lhs;cbv⟩
def E4:M:=HE.m
theorem aEm:UL E4 HE.m:=ul
def aPA:GF 52 [.cell 4 81,.tmp 5,.tmp 6] .shut Tryz.f198 (kpL aL [] [[0,1],[2,3,4],[2,3,4,8],[2,4],[2,3,4,8],[2,4],[2,3,4,8],[2,4],[2,3,4,8],[2,4],[2,3,4,8],[2,3,4,8],[2,3,4],[2,3,4],[2,3,4],[2,4,8],[2,4],[2,4],[2,4],[2,4],[2,4]]):=⟨_,by conv=>lhs;reduce⟩
def aQh:GF 32 [.tmp 6] .shut Tryz.f199:=⟨_,by conv=>lhs;cbv⟩
def aSU:GF 45 [.cell 4 58,.tmp 5,.tmp 6] .shut Tryz.f200:=⟨_,by conv=>lhs;cbv⟩
def aRd:GF 22 [.tmp 4,.tmp 5] .shut Tryz.f201:=⟨_,by conv=>lhs;cbv⟩
def aVw:GF 8 [.tmp 6] .pass Tryz.f211:=⟨_,by conv=>lhs;cbv⟩
def aDV:GF 23 [.tmp 4,.tmp 5,.tmp 6] .shut Tryz.f212 (kpL aL [] [[0,1],[0,1],[0,1,7],[0,1,7],[0]]):=⟨_,by conv=>lhs;reduce⟩
def aFf:GF 141 [.tmp 8] .pass Tryz.f218:=⟨_,by conv=>lhs;cbv⟩
def E6:Got (lpM aFf.m 0):=⟨_,by conv=>lhs;cbv⟩
def G8:M:=E6.m
theorem aFM:UL G8 E6.m:=ul
def aJN:GF 21 [] .pass Tryz.f220 (kpL aL [] [[0,1],[0,1]]):=⟨_,by conv=>lhs;reduce⟩
def aNZ:GF 23 [.tmp 6] .shut Tryz.f222:=⟨_,by conv=>lhs;cbv⟩
def aWK:GF 2 [.cell 0 369] .shut Tryz.f225:=⟨_,by conv=>lhs;cbv⟩
def aKG:GF 27 [.tmp 4] .pass Tryz.f227:=⟨_,by conv=>lhs;cbv⟩
def aNA:GF 11 [] .pass Tryz.f241:=⟨_,by conv=>lhs;cbv⟩
def aRh:GF 6 [] .pass Tryz.f242:=⟨_,by conv=>lhs;cbv⟩
def aLI:GF 11 [] .pass Tryz.f244:=⟨_,by conv=>lhs;cbv⟩
def aTf:GF 58 [] .pass Tryz.f246:=⟨_,by conv=>lhs;cbv⟩
def aTS:GF 52 [] .pass Tryz.f247:=⟨_,by conv=>lhs;cbv⟩
def aD9:GF 8 [.tmp 4] .shut Tryz.f249:=⟨_,by conv=>lhs;cbv⟩
def aND:GF 4 [.tmp 2] .pass Tryz.f251:=⟨_,by conv=>lhs;cbv⟩
def aL6:GF 16 [.tmp 2] .shut Tryz.f254:=⟨_,by conv=>lhs;cbv⟩
def aJK:GF 11 [.tmp 2] .shut Tryz.f263:=⟨_,by conv=>lhs;cbv⟩
def aQz:GF 35 [.tmp 2] .shut Tryz.f274:=⟨_,by conv=>lhs;cbv⟩
def aRq:GF 16 [.tmp 4] .pass Tryz.f275 (kpL aL [] [[0,1,2],[0,1,2]]):=⟨_,by conv=>lhs;reduce⟩
def aLP:GF 8 [] .pass Tryz.f278:=⟨_,by conv=>lhs;cbv⟩
def aRv:GF 21 [] .pass Tryz.f280 (kpL aL [] [[0]]):=⟨_,by conv=>lhs;reduce⟩
def aNT:GF 5 [] .pass Tryz.f285:=⟨_,by conv=>lhs;cbv⟩
def aPT:GF 26 [.cell 6 90] .shut Tryz.f288:=⟨_,by conv=>lhs;cbv⟩
def aMM:GF 6 [.cell 2 54] .shut Tryz.f292:=⟨_,by conv=>lhs;cbv⟩
def aUi:GF 22 [] .pass Tryz.f303 (kpL aL [] [[0,1,2],[0,1,2],[0,2]]):=⟨_,by conv=>lhs;reduce⟩
def aSV:GF 34 [] .pass Tryz.f305 (kpL aL [] [[0,1],[0,6,7,8],[0,6,7,8],[0,5,6,7,8],[0,5,6,7,8],[0,6,7,8]]):=⟨_,by conv=>lhs;reduce⟩
def aMu:GF 28 [.cell 4 85] .shut Tryz.f309 (kpL aL [] [[0,1],[1,2,4],[2,4],[1,2,4]]):=⟨_,by conv=>lhs;reduce⟩
def aAQ:GF 50 [] .pass Tryz.f314 (kpL aL [] [[0],[0],[0],[0],[0]]):=⟨_,by conv=>lhs;reduce⟩
def FN:Got (lpM aAQ.m 0):=⟨_,by conv=>lhs;cbv⟩
def QO:M:=FN.m
theorem aHC:UL QO FN.m:=ul
def FC:Got (lpM aAQ.m 1):=⟨_,by conv=>lhs;cbv⟩
def R8:M:=FC.m
theorem aEu:UL R8 FC.m:=ul
def ZA:GF 47 [.tmp 2,.tmp 3] .shut Tryz.f318:=⟨_,by conv=>lhs;cbv⟩
def aPy:GF 16 [.cell 4 54] .shut Tryz.f323:=⟨_,by conv=>lhs;cbv⟩
def g9:GF 24 [.cell 4 44,.tmp 5] .shut Tryz.f9 (kpL aL [] [[0,1],[1,2,4],[2,4,6,7],[2,4,7]]):=⟨_,by conv=>lhs;reduce⟩
def g13:GF 53 [.cell 6 62,.tmp 7,.tmp 8] .norm Tryz.f13 (kpL aL [] [[0,1,2],[3,4,5,6],[6],[3,4,5,6],[6],[3,4,5,6],[5,6,9],[6,9,10,11],[6,11],[6,9,10],[6,9],[6],[6,9]]):=⟨_,by conv=>lhs;reduce⟩
def g14:GF 77 [.tmp 4] .shut Tryz.f14:=⟨_,by conv=>lhs;cbv⟩
def OT:Got (lpM g14.m 0):=⟨_,by conv=>lhs;cbv⟩
def W0:M:=OT.m
theorem aK3:UL W0 OT.m:=ul
def L3:Got (lpM g14.m 1):=⟨_,by conv=>lhs;cbv⟩
def MQ:M:=L3.m
theorem aPj:UL MQ L3.m:=ul
def g20:GF 34 [.tmp 4] .shut Tryz.f20 (kpL aL [] [[0,1],[2,3],[],[2,3],[2,3,5],[2,3,5,16,17,18],[2,3,5,16,17,18],[2,3,5,6,7,16,17,18],[],[2,3,5,16,17,18],[3]]):=⟨_,by conv=>lhs;reduce⟩
def NL:Got (lpM g20.m 0):=⟨_,by conv=>lhs;cbv⟩
def aAC:M:=NL.m
theorem aJ5:UL aAC NL.m:=ul
def g22:GF 61 [.tmp 4] .shut Tryz.f22:=⟨_,by conv=>lhs;cbv⟩
def M5:Got (lpM g22.m 0):=⟨_,by conv=>lhs;cbv⟩
def LT:M:=M5.m
theorem aPc:UL LT M5.m:=ul
def LM:Got (lpM g22.m 1):=⟨_,by conv=>lhs;cbv⟩
def aBX:M:=LM.m
theorem aOl:UL aBX LM.m:=ul
def OM:Got (lpM g22.m 2):=⟨_,by conv=>lhs;cbv⟩
def aB4:M:=OM.m
theorem aSj:UL aB4 OM.m:=ul
def g32:GF 16 [.tmp 2] .shut Tryz.f32:=⟨_,by conv=>lhs;cbv⟩
def g36:GF 12 [.tmp 4] .shut Tryz.f36:=⟨_,by conv=>lhs;cbv⟩
def g37:GF 26 [.tmp 4] .pass Tryz.f37:=⟨_,by conv=>lhs;cbv⟩
def g45:GF 29 [.tmp 6,.tmp 7,.tmp 8] .shut Tryz.f45 (kpL aL [] [[0,1,2],[2,3,4],[],[2,3,4],[2,4,9],[2,4,6,9],[6,7,8]]):=⟨_,by conv=>lhs;reduce⟩
def g50:GF 6 [.tmp 2] .shut Tryz.f50:=⟨_,by conv=>lhs;cbv⟩
def g54:GF 57 [.cell 2 42,.cell 3 3,.cell 4 63] .shut Tryz.f54 (kpL aL [2,3,4,5,6] [[0],[0,2,3,4],[2,3,4],[0,2,3,4],[0,2,3,4,5],[0,2,3,4,5,6],[2,3,4,5,6,17,18],[2,3,4,5,6,7,18],[2,3,4,5,6,7,8],[2,3,4,5,7,8],[2,3,4,7],[5,8],[2,3,4,5,6,7,8],[2,3,4,7,9],[2,3,4,7,9],[2,3,4,5],[2,3,4],[2,3,4,5]]):=⟨_,by conv=>lhs;reduce⟩
def g61:GF 18 [.cell 2 4] .shut Tryz.f61 (kpL aL [1,2] [[0],[1,2],[2],[1,2],[1,2,9],[1,2,3],[2],[2]]):=⟨_,by conv=>lhs;reduce⟩
def NZ:Got (lpM g61.m 0):=⟨_,by conv=>lhs;cbv⟩
def kT:M:=NZ.m
theorem aMU:UL kT NZ.m:=ul
def N9:Got (lpM g61.m 1):=⟨_,by conv=>lhs;cbv⟩
def lE:M:=N9.m
theorem aMp:UL lE N9.m:=ul
def g63:GF 11 [.tmp 4] .shut Tryz.f63:=⟨_,by conv=>lhs;cbv⟩
def g65:GF 11 [.tmp 4] .shut Tryz.f65:=⟨_,by conv=>lhs;cbv⟩
def g66:GF 16 [.cell 4 54] .shut Tryz.f66:=⟨_,by conv=>lhs;cbv⟩
def g67:GF 46 [.tmp 4,.tmp 5] .pass Tryz.f67 (kpL aL [] [[0,1],[2,3],[2,6],[2,6,7],[2,6,7,28],[2,6,7],[2,6,7,28],[2,6,7],[2,6,7],[]]):=⟨_,by conv=>lhs;reduce⟩
def g68:GF 36 [.tmp 4,.tmp 5] .pass Tryz.f68:=⟨_,by conv=>lhs;cbv⟩
def g70:GF 76 [.tmp 4,.tmp 5] .pass Tryz.f70 (kpL aL [] [[0,1],[0,3],[0,3,6],[],[0,3,6],[0,3,6,8],[],[0,3,6],[0,6,9,10,11]]):=⟨_,by conv=>lhs;reduce⟩
def g71:GF 144 [.tmp 4,.tmp 5] .pass Tryz.f71 (kpL aL [] [[0,1],[2,3],[2,6],[2,6,7],[2,6,7,8],[],[2,6,7,8],[],[2,6,7,8],[2,6,9,11],[11],[2,6,9],[2,6,9],[2,6,9,12],[2,9,12,13,14,15,16],[2,9,16,17],[2,6,9],[2,6,9],[2,6,9,18,19,20],[]]):=⟨_,by conv=>lhs;reduce⟩
def g76:GF 8 [.tmp 2] .pass Tryz.f76:=⟨_,by conv=>lhs;cbv⟩
def g87:GF 7 [.tmp 2] .shut Tryz.f87:=⟨_,by conv=>lhs;cbv⟩
def g88:GF 4 [.tmp 2] .pass Tryz.f88:=⟨_,by conv=>lhs;cbv⟩
def g89:GF 6 [.tmp 2] .shut Tryz.f89:=⟨_,by conv=>lhs;cbv⟩
def g94:GF 10 [.tmp 2] .shut Tryz.f94:=⟨_,by conv=>lhs;cbv⟩
def g95:GF 41 [] .pass Tryz.f95:=⟨_,by conv=>lhs;cbv⟩
def g98:GF 8 [.tmp 0] .pass Tryz.f98:=⟨_,by conv=>lhs;cbv⟩
def TL:GF 51 [.tmp 6] .pass Tryz.f101 (kpL aL [] [[0,1,2],[0,1,2],[0,1,7],[0,1,7,8,9],[],[0,1,7,8],[0,7,8,9,10],[],[0,7,8,10],[0,8,9,11],[],[0,8,11],[],[0,8,11],[]]):=⟨_,by conv=>lhs;reduce⟩
def aVQ:GF 3 [.tmp 0] .shut Tryz.f102:=⟨_,by conv=>lhs;cbv⟩
def ZZ:GF 21 [.cell 6 42,.cell 7 63] .shut Tryz.f104 (kpL aL [3,4,5,6,7] [[0,1,2],[3,4,5,6,7],[3,4,5,6,7,11,12],[3,4,5,6,7,8,12],[3,4,5,6,7,8,9],[3,5,6,7,9],[3,6,7],[6,7]]):=⟨_,by conv=>lhs;reduce⟩
def GL:Got (lpM ZZ.m 0):=⟨_,by conv=>lhs;cbv⟩
def vV:M:=GL.m
theorem aGK:UL vV GL.m:=ul
def D0:Got (lpM ZZ.m 1):=⟨_,by conv=>lhs;cbv⟩
def uK:M:=D0.m
theorem aEz:UL uK D0.m:=ul
def aSv:GF 44 [.cell 6 95] .norm Tryz.f114:=⟨_,by conv=>lhs;cbv⟩
def aQ2:GF 28 [.cell 2 88,.tmp 3] .shut Tryz.f117 (kpL aL [] [[0],[1,2],[2],[1,2]]):=⟨_,by conv=>lhs;reduce⟩
def V4:GF 123 [.cell 8 90,.tmp 9,.tmp 10,.tmp 11] .shut Tryz.f118:=⟨_,by conv=>lhs;cbv⟩
def aL1:GF 52 [.cell 10 90,.tmp 11,.tmp 12] .shut Tryz.f120:=⟨_,by conv=>lhs;cbv⟩
def aJT:GF 22 [.tmp 4] .shut Tryz.f124:=⟨_,by conv=>lhs;cbv⟩
def aMy:GF 86 [.cell 10 58,.tmp 11,.tmp 12] .shut Tryz.f127 (kpL aL [] [[0,1,2,3,4],[2,5,6,8,9,10],[8,10],[2,5,6,8,9,10],[2,5,6,8,9,10,30],[2,5,6,8,9,10,30],[8,9,10],[2,5,6,8,9,10],[2,5,6,8,9,10,13,14],[8,10],[2,5,6,8,9,10,13],[8,10],[2,5,6,8,9,10,13],[8,10],[2,5,6,8,9,10,13],[2,6,8,9,10,15],[2,6,8,9,10,15,16],[8,10,16],[2,6,8,9,10,15],[10,15,17],[10,15,17],[10,17]]):=⟨_,by conv=>lhs;reduce⟩
def aRt:GF 6 [.tmp 4] .pass Tryz.f131:=⟨_,by conv=>lhs;cbv⟩
def aQi:GF 13 [.tmp 3] .pass Tryz.f135:=⟨_,by conv=>lhs;cbv⟩
def aNm:GF 21 [.tmp 6] .shut Tryz.f141:=⟨_,by conv=>lhs;cbv⟩
def aP8:GF 9 [.tmp 2] .pass Tryz.f148:=⟨_,by conv=>lhs;cbv⟩
def aJw:GF 12 [.tmp 4,.tmp 5] .pass Tryz.f150:=⟨_,by conv=>lhs;cbv⟩
def aD3:GF 20 [.tmp 3] .pass Tryz.f160:=⟨_,by conv=>lhs;cbv⟩
def GT:Got (lpM aD3.m 0):=⟨_,by conv=>lhs;cbv⟩
def FO:M:=GT.m
theorem aGL:UL FO GT.m:=ul
def aJG:GF 7 [.tmp 1] .pass Tryz.f161:=⟨_,by conv=>lhs;cbv⟩
def aLc:GF 34 [.tmp 2] .shut Tryz.f162:=⟨_,by conv=>lhs;cbv⟩
def aKK:GF 4 [.tmp 1] .pass Tryz.f163:=⟨_,by conv=>lhs;cbv⟩
def aKZ:GF 6 [.tmp 2] .pass Tryz.f167:=⟨_,by conv=>lhs;cbv⟩
def aSs:GF 21 [.tmp 1] .pass Tryz.f170:=⟨_,by conv=>lhs;cbv⟩
def aM6:GF 17 [.tmp 1] .pass Tryz.f171 (kpL aL [] [[0],[0]]):=⟨_,by conv=>lhs;reduce⟩
def aQe:GF 3 [.tmp 2] .pass Tryz.f180:=⟨_,by conv=>lhs;cbv⟩
def aRl:GF 30 [.tmp 2] .pass Tryz.f181 (kpL aL [] [[0],[0],[]]):=⟨_,by conv=>lhs;reduce⟩
def aSc:GF 23 [.tmp 2] .pass Tryz.f182 (kpL aL [] [[0],[0],[0,3,4],[0,3],[]]):=⟨_,by conv=>lhs;reduce⟩
def aRN:GF 18 [.tmp 4] .shut Tryz.f186:=⟨_,by conv=>lhs;cbv⟩
def aS2:GF 36 [.tmp 2] .pass Tryz.f197:=⟨_,by conv=>lhs;cbv⟩
def aQD:GF 10 [.tmp 2] .shut Tryz.f202:=⟨_,by conv=>lhs;cbv⟩
def aEV:GF 55 [.tmp 2] .shut Tryz.f215:=⟨_,by conv=>lhs;cbv⟩
def HD:Got (lpM aEV.m 0):=⟨_,by conv=>lhs;cbv⟩
def Q5:M:=HD.m
theorem aEe:UL Q5 HD.m:=ul
def aRH:GF 23 [.tmp 6] .shut Tryz.f221:=⟨_,by conv=>lhs;cbv⟩
def aOg:GF 5 [] .pass Tryz.f230:=⟨_,by conv=>lhs;cbv⟩
def aPk:GF 20 [] .pass Tryz.f232 (kpL aL [] [[0]]):=⟨_,by conv=>lhs;reduce⟩
def aI5:GF 9 [.tmp 2] .shut Tryz.f245:=⟨_,by conv=>lhs;cbv⟩
def aS8:GF 18 [.tmp 1] .pass Tryz.f260 (kpL aL [] [[0],[0]]):=⟨_,by conv=>lhs;reduce⟩
def aNn:GF 16 [.tmp 1] .pass Tryz.f262:=⟨_,by conv=>lhs;cbv⟩
def aTL:GF 23 [.cell 4 85] .shut Tryz.f270:=⟨_,by conv=>lhs;cbv⟩
def aLs:GF 26 [.tmp 4,.tmp 5] .pass Tryz.f272:=⟨_,by conv=>lhs;cbv⟩
def aSM:GF 13 [] .pass Tryz.f279 (kpL aL [] [[0]]):=⟨_,by conv=>lhs;reduce⟩
def aPe:GF 11 [] .pass Tryz.f282:=⟨_,by conv=>lhs;cbv⟩
def aOU:GF 8 [] .pass Tryz.f283:=⟨_,by conv=>lhs;cbv⟩
def aJ9:GF 29 [.cell 6 90] .shut Tryz.f287:=⟨_,by conv=>lhs;cbv⟩
def aKI:GF 34 [] .pass Tryz.f291 (kpL aL [] [[0,1],[0,6,7,8],[0,6,7,8],[0,5,6,7,8],[0,5,6,7,8],[0,6,7,8]]):=⟨_,by conv=>lhs;reduce⟩
def aEh:GF 8 [.tmp 4] .shut Tryz.f296:=⟨_,by conv=>lhs;cbv⟩
def aE5:GF 57 [.cell 2 349,.tmp 3] .pass Tryz.f301 (kpL aL [] [[0],[0,2],[0,2],[0,2],[0,2],[0,2],[0,2,4],[0,2,4,5],[0,2,4,5],[0,2,4],[2,4],[0,2,5],[2]]):=⟨_,by conv=>lhs;reduce⟩
def EQ:Got (lpM aE5.m 0):=⟨_,by conv=>lhs;cbv⟩
def PV:M:=EQ.m
theorem aFx:UL PV EQ.m:=ul
def WB:GF 30 [.tmp 2] .shut Tryz.f302:=⟨_,by conv=>lhs;cbv⟩
def aPG:GF 13 [.tmp 2] .pass Tryz.f306 (kpL aL [] [[0],[0]]):=⟨_,by conv=>lhs;reduce⟩
def aOy:GF 28 [.cell 4 85] .shut Tryz.f308 (kpL aL [] [[0,1],[1,2,4],[2,4],[1,2,4]]):=⟨_,by conv=>lhs;reduce⟩
def aKP:GF 18 [.tmp 2] .pass Tryz.f315 (kpL aL [] [[0],[0]]):=⟨_,by conv=>lhs;reduce⟩
def aPQ:GF 51 [.cell 2 349] .pass Tryz.f316 (kpL aL [] [[0],[0,2],[0,2,3,4],[0,2,3,4,17],[0,2],[0,2,3,4,17],[0,2],[0,2,3,4],[0,2,3,4,5],[0,2,3,5]]):=⟨_,by conv=>lhs;reduce⟩
def aOb:GF 4 [.tmp 2] .pass Tryz.f320:=⟨_,by conv=>lhs;cbv⟩
def aNU:GF 15 [.cell 4 54] .shut Tryz.f321:=⟨_,by conv=>lhs;cbv⟩
def aPZ:GF 39 [.cell 4 54] .shut Tryz.f322:=⟨_,by conv=>lhs;cbv⟩
def aPw:List (Nat×List Value):=[(7,[.int .u8 0,.int .u8 1,.int .u8 56,.int .u8 2,.int .u8 57,.int .u8 49,.int .u8 28,.int .u8 3,.int .u8 61,.int .u8 58,.int .u8 42,.int .u8 50,.int .u8 38,.int .u8 29,.int .u8 17,.int .u8 4,.int .u8 62,.int .u8 47,.int .u8 59,.int .u8 36,.int .u8 45,.int .u8 43,.int .u8 51,.int .u8 22,.int .u8 53,.int .u8 39,.int .u8 33,.int .u8 30,.int .u8 24,.int .u8 18,.int .u8 12,.int .u8 5,.int .u8 63,.int .u8 55,.int .u8 48,.int .u8 27,.int .u8 60,.int .u8 41,.int .u8 37,.int .u8 16,.int .u8 46,.int .u8 35,.int .u8 44,.int .u8 21,.int .u8 52,.int .u8 32,.int .u8 23,.int .u8 11,.int .u8 54,.int .u8 26,.int .u8 40,.int .u8 15,.int .u8 34,.int .u8 20,.int .u8 31,.int .u8 10,.int .u8 25,.int .u8 14,.int .u8 19,.int .u8 9,.int .u8 13,.int .u8 8,.int .u8 7,.int .u8 6]),(0,[.int .i64 4,.int .i64 2,.int .i64 4,.int .i64 4,.int .i64 4]),(4,[.int .u8 0,.int .u8 35,.int .u8 38,.int .u8 29,.int .u8 7,.int .u8 7,.int .u8 15,.int .u8 32,.int .u8 92]),(2,[.int .u8 0,.int .u8 1,.int .u8 1,.int .u8 1,.int .u8 3,.int .u8 3,.int .u8 2,.int .u8 2,.int .u8 2,.int .u8 2,.int .u8 3,.int .u8 3,.int .u8 3]),(1,[.string ⟨#[]⟩,.string ⟨#[]⟩,.string ⟨#[]⟩,.string ⟨#[]⟩,.string ⟨#[]⟩,.string ⟨#[]⟩,.string ⟨#[]⟩,.string ⟨#[]⟩,.string ⟨#[]⟩,.string ⟨#[]⟩,.string ⟨#[]⟩,.string ⟨#[]⟩,.string ⟨#[]⟩,.string ⟨#[]⟩,.string ⟨#[]⟩,.string ⟨#[73]⟩,.string ⟨#[83]⟩,.string ⟨#[69]⟩,.string ⟨#[79]⟩,.string ⟨#[77]⟩,.string ⟨#[73,83]⟩,.string ⟨#[73,77]⟩,.string ⟨#[83,77]⟩,.string ⟨#[79,77]⟩,.string ⟨#[73,65]⟩,.string ⟨#[77,73]⟩,.string ⟨#[73,73]⟩,.string ⟨#[]⟩,.string ⟨#[]⟩,.string ⟨#[]⟩,.string ⟨#[108,111,97,100]⟩,.string ⟨#[115,116,111,114,101]⟩,.string ⟨#[101,118,105,99,116]⟩,.string ⟨#[102,119,100,115]⟩,.string ⟨#[102,119,100,109]⟩,.string ⟨#[105,110,118]⟩,.string ⟨#[112,117,116]⟩,.string ⟨#[118,97,108,117,101]⟩,.string ⟨#[97,108,111,110,101]⟩,.string ⟨#[109,111,114,101]⟩,.string ⟨#[103,114,97,110,116]⟩,.string ⟨#[115,111,111,110]⟩,.string ⟨#[97,99,107]⟩,.string ⟨#[108,97,115,116]⟩,.string ⟨#[]⟩,.string ⟨#[116,97,107,101]⟩,.string ⟨#[97,115,107]⟩,.string ⟨#[97,115,107,109]⟩,.string ⟨#[112,117,116]⟩,.string ⟨#[103,105,118,101]⟩,.string ⟨#[99,111,112,121]⟩,.string ⟨#[105,110,118]⟩,.string ⟨#[100,111,110,101]⟩,.string ⟨#[100,111]⟩,.string ⟨#[100,114,111,112]⟩,.string ⟨#[]⟩,.string ⟨#[]⟩,.string ⟨#[]⟩,.string ⟨#[]⟩,.string ⟨#[]⟩,.string ⟨#[85,110]⟩,.string ⟨#[83,104]⟩,.string ⟨#[69,120]⟩,.string ⟨#[79,119]⟩,.string ⟨#[]⟩,.string ⟨#[]⟩,.string ⟨#[]⟩,.string ⟨#[]⟩,.string ⟨#[]⟩,.string ⟨#[]⟩,.string ⟨#[]⟩,.string ⟨#[]⟩,.string ⟨#[]⟩,.string ⟨#[]⟩,.string ⟨#[]⟩,.string ⟨#[103,101,116,115]⟩,.string ⟨#[103,101,116,109]⟩,.string ⟨#[117,112]⟩,.string ⟨#[98,97,99,107]⟩,.string ⟨#[115,116,97,108,101]⟩,.string ⟨#[]⟩,.string ⟨#[]⟩,.string ⟨#[]⟩,.string ⟨#[]⟩,.string ⟨#[]⟩,.string ⟨#[]⟩,.string ⟨#[]⟩,.string ⟨#[]⟩,.string ⟨#[]⟩,.string ⟨#[]⟩,.string ⟨#[105,110,118,115]⟩,.string ⟨#[109,101,109]⟩,.string ⟨#[97,108,111,110,101]⟩,.string ⟨#[102,119,100,115]⟩,.string ⟨#[102,119,100,109]⟩,.string ⟨#[103,114,97,110,116]⟩,.string ⟨#[119,114,105,116,101]⟩,.string ⟨#[98,97,99,107]⟩,.string ⟨#[99,108,101,97,114]⟩,.string ⟨#[110,111,116,101]⟩,.string ⟨#[98,111,116,104]⟩,.string ⟨#[111,119,110]⟩,.string ⟨#[102,114,101,101]⟩,.string ⟨#[98,117,115,121]⟩,.string ⟨#[116,119,105,99,101]⟩])]
def aN1:BT Ty:=(.node 181 aAZ.t (.node 60 VZ.t (.node 37 aSS (.node 23 aRn.t (.node 9 th9.t (.node 4 th4.t (.node 3 th3.t (.node 1 th1.t .nil .nil) .nil) (.node 5 th5.t .nil .nil)) (.node 21 aJ1.t (.node 20 aPN.t .nil .nil) (.node 22 aOu.t .nil .nil))) (.node 31 aOC.t (.node 27 aQJ.t (.node 25 aOp.t (.node 24 aI4.t .nil .nil) .nil) (.node 29 aLz.t .nil .nil)) (.node 34 aQI.t (.node 33 aOz.t .nil .nil) (.node 36 aJx.t .nil .nil)))) (.node 50 aMh.t (.node 44 aSG (.node 40 aS9 (.node 39 aLe.t (.node 38 aJp .nil .nil) .nil) (.node 42 aGB .nil .nil)) (.node 46 aJ3.t (.node 45 aIR.t .nil .nil) (.node 49 aMW.t .nil .nil))) (.node 55 aRr.t (.node 52 aJL.t (.node 51 aPV.t .nil .nil) (.node 54 aOs.t .nil .nil)) (.node 58 aRU.t (.node 56 aQL.t .nil .nil) (.node 59 aKe .nil .nil))))) (.node 95 aIU.t (.node 82 aPs (.node 73 aBq.t (.node 66 aS5.t (.node 63 aSt.t (.node 62 aOT.t .nil .nil) .nil) (.node 69 aQE.t .nil .nil)) (.node 79 aPz.t (.node 75 aOm.t .nil .nil) (.node 81 aMb.t .nil .nil))) (.node 88 aRP.t (.node 85 aSZ.t (.node 83 aMQ .nil .nil) (.node 86 aKp.t .nil .nil)) (.node 92 aRe.t (.node 90 aLT .nil .nil) (.node 93 T5.t .nil .nil)))) (.node 136 WF.t (.node 122 aBG.t (.node 109 XW.t (.node 107 aCr.t (.node 104 Y3.t .nil .nil) .nil) (.node 111 aAY.t .nil .nil)) (.node 130 aAj.t (.node 128 aCn.t .nil .nil) (.node 132 XP.t .nil .nil))) (.node 157 Y2.t (.node 149 aAm.t (.node 145 W7.t .nil .nil) (.node 151 aAJ .nil .nil)) (.node 171 ZL.t (.node 159 aDf.t .nil .nil) (.node 178 KG.t .nil .nil)))))) (.node 337 aB6.t (.node 267 XN.t (.node 213 aCJ.t (.node 199 WX.t (.node 187 X4.t (.node 186 aDq.t (.node 182 aBO.t .nil .nil) .nil) (.node 193 XA.t .nil .nil)) (.node 203 aBH.t (.node 202 aCs.t .nil .nil) (.node 210 WP.t .nil .nil))) (.node 226 aDB.t (.node 220 aC9.t (.node 218 aCB.t (.node 216 YT.t .nil .nil) .nil) (.node 224 aDG.t .nil .nil)) (.node 230 aC5.t (.node 228 YP.t .nil .nil) (.node 233 WZ.t .nil .nil)))) (.node 302 aA5.t (.node 278 aAK.t (.node 272 ZG.t (.node 270 YK.t (.node 268 X5.t .nil .nil) .nil) (.node 277 aDL.t .nil .nil)) (.node 293 aCV.t (.node 292 aA0.t .nil .nil) (.node 299 aCP.t .nil .nil))) (.node 316 aCW.t (.node 305 X8.t (.node 303 aDC.t .nil .nil) (.node 306 aBb.t .nil .nil)) (.node 329 aB1.t (.node 323 WI.t .nil .nil) (.node 331 ZY.t .nil .nil))))) (.node 374 aBY.t (.node 357 aDd.t (.node 349 aAA.t (.node 344 ZE.t (.node 342 aBr.t (.node 340 YU.t .nil .nil) .nil) (.node 347 aC7.t .nil .nil)) (.node 353 ZS.t (.node 352 aDv.t .nil .nil) (.node 356 aDa.t .nil .nil))) (.node 364 WM.t (.node 360 aBj.t (.node 358 aAu.t .nil .nil) (.node 362 aC8.t .nil .nil)) (.node 369 W8.t (.node 368 WH.t .nil .nil) (.node 371 aBa.t .nil .nil)))) (.node 403 aAE.t (.node 383 aC6.t (.node 377 aAF.t (.node 376 aB8.t (.node 375 aAM.t .nil .nil) .nil) (.node 378 aCi .nil .nil)) (.node 390 aDo.t (.node 385 aB9.t .nil .nil) (.node 394 ZO.t .nil .nil))) (.node 419 aDn.t (.node 411 aAG.t (.node 406 aAO.t .nil .nil) (.node 417 Z5.t .nil .nil)) (.node 435 aDJ.t (.node 422 aDw.t .nil .nil) (.node 438 aDF .nil .nil)))))))
def aPB:BT MFn:=(.node 168 aR8.fn (.node 90 g90.fn (.node 50 g50.fn (.node 30 g30.fn (.node 18 g18.fn (.node 11 g11.fn (.node 9 g9.fn (.node 8 g8.fn (.node 6 g6.fn .nil .nil) .nil) (.node 10 g10.fn .nil .nil)) (.node 14 g14.fn (.node 13 g13.fn (.node 12 g12.fn .nil .nil) .nil) (.node 17 g17.fn .nil .nil))) (.node 25 g25.fn (.node 22 g22.fn (.node 21 g21.fn (.node 20 g20.fn .nil .nil) .nil) (.node 24 g24.fn .nil .nil)) (.node 28 g28.fn (.node 27 g27.fn (.node 26 g26.fn .nil .nil) .nil) (.node 29 g29.fn .nil .nil)))) (.node 40 g40.fn (.node 35 g35.fn (.node 33 g33.fn (.node 32 g32.fn (.node 31 g31.fn .nil .nil) .nil) (.node 34 g34.fn .nil .nil)) (.node 38 g38.fn (.node 37 g37.fn (.node 36 g36.fn .nil .nil) .nil) (.node 39 g39.fn .nil .nil))) (.node 46 g46.fn (.node 44 g44.fn (.node 43 g43.fn (.node 41 g41.fn .nil .nil) .nil) (.node 45 g45.fn .nil .nil)) (.node 48 g48.fn (.node 47 g47.fn .nil .nil) (.node 49 g49.fn .nil .nil))))) (.node 71 g71.fn (.node 61 g61.fn (.node 56 g56.fn (.node 54 g54.fn (.node 53 g53.fn (.node 52 g52.fn .nil .nil) .nil) (.node 55 g55.fn .nil .nil)) (.node 59 g59.fn (.node 58 g58.fn (.node 57 g57.fn .nil .nil) .nil) (.node 60 g60.fn .nil .nil))) (.node 66 g66.fn (.node 64 g64.fn (.node 63 g63.fn (.node 62 g62.fn .nil .nil) .nil) (.node 65 g65.fn .nil .nil)) (.node 69 g69.fn (.node 68 g68.fn (.node 67 g67.fn .nil .nil) .nil) (.node 70 g70.fn .nil .nil)))) (.node 81 g81.fn (.node 76 g76.fn (.node 74 g74.fn (.node 73 g73.fn (.node 72 g72.fn .nil .nil) .nil) (.node 75 g75.fn .nil .nil)) (.node 79 g79.fn (.node 78 g78.fn (.node 77 g77.fn .nil .nil) .nil) (.node 80 g80.fn .nil .nil))) (.node 86 g86.fn (.node 84 g84.fn (.node 83 g83.fn (.node 82 g82.fn .nil .nil) .nil) (.node 85 g85.fn .nil .nil)) (.node 88 g88.fn (.node 87 g87.fn .nil .nil) (.node 89 g89.fn .nil .nil)))))) (.node 130 aQo.fn (.node 111 aI9.fn (.node 101 TL.fn (.node 96 g96.fn (.node 94 g94.fn (.node 92 g92.fn (.node 91 g91.fn .nil .nil) .nil) (.node 95 g95.fn .nil .nil)) (.node 99 g99.fn (.node 98 g98.fn (.node 97 g97.fn .nil .nil) .nil) (.node 100 aEG.fn .nil .nil))) (.node 106 aRj.fn (.node 104 ZZ.fn (.node 103 aWn.fn (.node 102 aVQ.fn .nil .nil) .nil) (.node 105 aMs.fn .nil .nil)) (.node 109 aS1.fn (.node 108 aL0.fn (.node 107 aSz.fn .nil .nil) .nil) (.node 110 aLh.fn .nil .nil)))) (.node 121 aGQ.fn (.node 116 aPL.fn (.node 114 aSv.fn (.node 113 aQp.fn (.node 112 aQ4.fn .nil .nil) .nil) (.node 115 aLK.fn .nil .nil)) (.node 119 aPq.fn (.node 118 V4.fn (.node 117 aQ2.fn .nil .nil) .nil) (.node 120 aL1.fn .nil .nil))) (.node 126 aKU.fn (.node 124 aJT.fn (.node 123 aOL.fn (.node 122 aOc.fn .nil .nil) .nil) (.node 125 aNd.fn .nil .nil)) (.node 128 aMA.fn (.node 127 aMy.fn .nil .nil) (.node 129 aNv.fn .nil .nil))))) (.node 149 aVa.fn (.node 140 aNC.fn (.node 135 aQi.fn (.node 133 aPF.fn (.node 132 aEL.fn (.node 131 aRt.fn .nil .nil) .nil) (.node 134 aL4.fn .nil .nil)) (.node 138 aLZ.fn (.node 137 aDc.fn (.node 136 aGh.fn .nil .nil) .nil) (.node 139 aJu.fn .nil .nil))) (.node 145 aUg.fn (.node 143 aWb.fn (.node 142 aWL.fn (.node 141 aNm.fn .nil .nil) .nil) (.node 144 aWd.fn .nil .nil)) (.node 147 aUv.fn (.node 146 aTj.fn .nil .nil) (.node 148 aP8.fn .nil .nil)))) (.node 159 aRf.fn (.node 154 aX1.fn (.node 152 aXv.fn (.node 151 aXc.fn (.node 150 aJw.fn .nil .nil) .nil) (.node 153 aUq.fn .nil .nil)) (.node 157 aUH.fn (.node 156 aUx.fn (.node 155 aHj.fn .nil .nil) .nil) (.node 158 aMc.fn .nil .nil))) (.node 164 aFB.fn (.node 162 aLc.fn (.node 161 aJG.fn (.node 160 aD3.fn .nil .nil) .nil) (.node 163 aKK.fn .nil .nil)) (.node 166 aQb.fn (.node 165 aRs.fn .nil .nil) (.node 167 aKZ.fn .nil .nil))))))) (.node 246 aTf.fn (.node 207 aAe.fn (.node 188 aN6.fn (.node 178 aLg.fn (.node 173 N7.fn (.node 171 aM6.fn (.node 170 aSs.fn (.node 169 aC2.fn .nil .nil) .nil) (.node 172 aRw.fn .nil .nil)) (.node 176 aWM.fn (.node 175 aWj.fn (.node 174 aUA.fn .nil .nil) .nil) (.node 177 aKA.fn .nil .nil))) (.node 183 aK9.fn (.node 181 aRl.fn (.node 180 aQe.fn (.node 179 aLv.fn .nil .nil) .nil) (.node 182 aSc.fn .nil .nil)) (.node 186 aRN.fn (.node 185 aJo.fn (.node 184 aJ2.fn .nil .nil) .nil) (.node 187 aOE.fn .nil .nil)))) (.node 198 aPA.fn (.node 193 aEY.fn (.node 191 aOR.fn (.node 190 aRp.fn (.node 189 aGn.fn .nil .nil) .nil) (.node 192 aBu.fn .nil .nil)) (.node 196 aL9.fn (.node 195 aG2.fn (.node 194 aP0.fn .nil .nil) .nil) (.node 197 aS2.fn .nil .nil))) (.node 203 aFO.fn (.node 201 aRd.fn (.node 200 aSU.fn (.node 199 aQh.fn .nil .nil) .nil) (.node 202 aQD.fn .nil .nil)) (.node 205 aMF.fn (.node 204 aFH.fn .nil .nil) (.node 206 aET.fn .nil .nil))))) (.node 227 aKG.fn (.node 217 aJM.fn (.node 212 aDV.fn (.node 210 aUn.fn (.node 209 aTt.fn (.node 208 aXG.fn .nil .nil) .nil) (.node 211 aVw.fn .nil .nil)) (.node 215 aEV.fn (.node 214 aAf.fn (.node 213 PE.fn .nil .nil) .nil) (.node 216 aLQ.fn .nil .nil))) (.node 222 aNZ.fn (.node 220 aJN.fn (.node 219 aYu.fn (.node 218 aFf.fn .nil .nil) .nil) (.node 221 aRH.fn .nil .nil)) (.node 225 aWK.fn (.node 224 aNt.fn .nil .nil) (.node 226 aQP.fn .nil .nil)))) (.node 237 aOe.fn (.node 232 aPk.fn (.node 230 aOg.fn (.node 229 aIT.fn (.node 228 aKz.fn .nil .nil) .nil) (.node 231 aQj.fn .nil .nil)) (.node 235 aPf.fn (.node 234 aP4.fn (.node 233 aRc.fn .nil .nil) .nil) (.node 236 aKk.fn .nil .nil))) (.node 242 aRh.fn (.node 240 aLC.fn (.node 239 aN3.fn (.node 238 aQn.fn .nil .nil) .nil) (.node 241 aNA.fn .nil .nil)) (.node 244 aLI.fn (.node 243 aMP.fn .nil .nil) (.node 245 aI5.fn .nil .nil)))))) (.node 286 aNQ.fn (.node 267 aVS.fn (.node 257 aOH.fn (.node 252 aVF.fn (.node 250 aEU.fn (.node 249 aD9.fn (.node 247 aTS.fn .nil .nil) .nil) (.node 251 aND.fn .nil .nil)) (.node 255 aG5.fn (.node 254 aL6.fn (.node 253 aPp.fn .nil .nil) .nil) (.node 256 aPU.fn .nil .nil))) (.node 262 aNn.fn (.node 260 aS8.fn (.node 259 aSC.fn (.node 258 aJj.fn .nil .nil) .nil) (.node 261 aRi.fn .nil .nil)) (.node 265 aO5.fn (.node 264 aMf.fn (.node 263 aJK.fn .nil .nil) .nil) (.node 266 aON.fn .nil .nil)))) (.node 277 aMd.fn (.node 272 aLs.fn (.node 270 aTL.fn (.node 269 aXl.fn (.node 268 aNH.fn .nil .nil) .nil) (.node 271 aSx.fn .nil .nil)) (.node 275 aRq.fn (.node 274 aQz.fn (.node 273 aYk.fn .nil .nil) .nil) (.node 276 aO8.fn .nil .nil))) (.node 282 aPe.fn (.node 280 aRv.fn (.node 279 aSM.fn (.node 278 aLP.fn .nil .nil) .nil) (.node 281 aMi.fn .nil .nil)) (.node 284 aJU.fn (.node 283 aOU.fn .nil .nil) (.node 285 aNT.fn .nil .nil))))) (.node 309 aMu.fn (.node 300 aFK.fn (.node 291 aKI.fn (.node 289 aGq.fn (.node 288 aPT.fn (.node 287 aJ9.fn .nil .nil) .nil) (.node 290 aKg.fn .nil .nil)) (.node 294 aTY.fn (.node 293 aQl.fn (.node 292 aMM.fn .nil .nil) .nil) (.node 296 aEh.fn .nil .nil))) (.node 305 aSV.fn (.node 303 aUi.fn (.node 302 WB.fn (.node 301 aE5.fn .nil .nil) .nil) (.node 304 aF6.fn .nil .nil)) (.node 307 aPH.fn (.node 306 aPG.fn .nil .nil) (.node 308 aOy.fn .nil .nil)))) (.node 321 aNU.fn (.node 316 aPQ.fn (.node 314 aAQ.fn (.node 311 aYp.fn (.node 310 aQ6.fn .nil .nil) .nil) (.node 315 aKP.fn .nil .nil)) (.node 319 aWY.fn (.node 318 ZA.fn (.node 317 aSK.fn .nil .nil) .nil) (.node 320 aOb.fn .nil .nil))) (.node 326 aD5.fn (.node 324 aKv.fn (.node 323 aPy.fn (.node 322 aPZ.fn .nil .nil) .nil) (.node 325 aFg.fn .nil .nil)) (.node 328 aUe.fn (.node 327 aKs.fn .nil .nil) (.node 329 aSq.fn .nil .nil))))))))
def Cz:Ctx:=⟨⟨aN1.get,⟨xL aPw,ZU,aT1⟩⟩,aPB.get,YR,RZ⟩
theorem F3:jF Tryz.prog Cz:=aAL (by kernel_rfl) (by repeat' first|exact⟨⟩|exact aM9.h _|exact fk _ (by kernel_rfl)|(show _=_;kernel_rfl)|refine⟨?_,?_,?_⟩) (by repeat' first|exact⟨⟩|exact aM9.h _|exact fk _ (by kernel_rfl)|(show _=_;kernel_rfl)|refine⟨?_,?_,?_⟩) XG (Z7)
theorem aA3:Cz.B 77=some g77.fn:=by rfl
theorem Y5:Cz.B 79=some g79.fn:=by rfl
theorem aIu:Cz.T 60=some VZ.t:=by rfl
theorem aUd:Cz.T 73=some aBq.t:=by rfl
theorem aH3:Cz.T 93=some T5.t:=by rfl
theorem aLN:Cz.T 178=some KG.t:=by rfl
def sT(f:FuncId):Bool:=Nat.beq f 77||Nat.beq f 79
def zT(f:FuncId)(zs:List A):Option A:=bif sT f then(match zs with|[.sl 0 []]=>some (.sl 0 [])|_=>none)else YR f zs
theorem NE(f:FuncId)(hf:sT f=true)(c:Nat):EvQ Cz f [.v (.slice none 0 c)] (.sl 0 []):=by simp only[sT,ez]at hf;rcases hf with h|h;{obtain rfl:=ax h;refine evF aA3 ?_;simp(disch:=omega)only[go_sem,simprocAttr,aH3,T5,uS,xQ,g77]};{obtain rfl:=ax h;refine evF Y5 ?_;simp(disch:=omega)only[go_sem,simprocAttr,aIu,VZ,uS,xQ,g79]}
theorem NF(f:FuncId)(hf:sT f=true)(a:Addr)(c:Nat):EvQ Cz f [.v (.slice (some a) 0 c)] (.sl 0 []):=by simp only[sT,ez]at hf;rcases hf with h|h;{obtain rfl:=ax h;refine evF aA3 ?_;simp(disch:=omega)only[go_sem,simprocAttr,aH3,T5,aLN,KG,uS,xQ,g77]};{obtain rfl:=ax h;refine evF Y5 ?_;simp(disch:=omega)only[go_sem,simprocAttr,aIu,VZ,aUd,aBq,uS,xQ,g79]}
theorem aAi:QOk Cz.T Tryz.prog zT:=by intro f zs r h;unfold zT at h;cases hb:sT f with|false=>rw[hb,cg]at h;exact F3.ext f zs r h|true=>rw[hb,bq]at h;split at h;{simp only[ac]at h;subst h;(have hent:xC Tryz.prog f:=by simp only[sT,ez]at hb;rcases hb with h|h;{obtain rfl:=ax h;exact F3.enters aA3};{obtain rfl:=ax h;exact F3.enters Y5});refine .inr ⟨hent,fun own w ys ho hgl hr=>?_⟩;(obtain⟨y,ys',rfl,hy,hn⟩:∃y ys',ys=y::ys'/\R [] own w (.sl 0 []) y/\RL [] own w [] ys':=by rw[RL]at hr;obtain⟨y,ys',e,h1,h2⟩:=hr;exact⟨y,ys',e,h1,h2⟩);(have key:∀a c,y=.slice a 0 c->EvQ Cz f [.v (.slice a 0 c)] (.sl 0 []):=fun a c _=>by cases a with|none=>exact NE f hb c|some a=>exact NF f hb a c);(have fin:∀a c,y=.slice a 0 c->Go.Calls Tryz.prog f (y::ys').toArray w fun e w'=>∃v,e=.returned v/\Grow w w'/\R [] own w' (.sl 0 []) v:=fun a c e=>by subst e;obtain⟨N,hN⟩:=key a c rfl;rcases(dP F3 N).1 f _ _ hN with h|⟨-,h⟩;{obtain⟨v,h1,-⟩:=h [] own w _ (RL.cons (by rw[R]) hn);rw[hent]at h1;simp at h1};{exact h own w _ ho hgl (RL.cons (by rw[R]) hn)});rw[R]at hy;rcases hy with⟨-,-,a,c,rfl⟩|⟨g,off,cap,xs,rfl,h0,-⟩;{exact fin _ _ rfl};{exact fin _ _ rfl}};{cases h}
