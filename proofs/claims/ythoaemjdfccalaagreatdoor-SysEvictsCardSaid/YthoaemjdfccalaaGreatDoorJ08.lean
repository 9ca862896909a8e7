/- The evaluator's context: types and bodies, and that they are the program's. Printed by wip/ev/gen/ctx.py. -/
import Derived.Test.YthoaemjdfccalaaGreatDoorJ07
import Derived.Test.YthoaemjdfccalaaGreatDoorJ05
set_option linter.all false
namespace Go.Proofs.YthoaemjdfccalaaGreatDoor.Ev
open Go Go.RowKit
set_option maxRecDepth 100000
def g3:GF 90 [.tmp 6] .shut Tryz.f3 (kpL aM [] [[0,1,2],[1,2,3],[],[1,2,3],[2,3,7],[],[2,3],[2,3,8,9],[],[2,3,8],[2,3,8,10],[2,3,8,10],[2,3,8,10],[2,3,8,10,11],[2,3,8,10,11],[2,3,8,10,11,12],[2,3,8,10,11,12,13],[2,3,8,10,11,12,13,14],[2,3,8,10,11,12,13,14],[2,3,8,10,11,12,13,14],[2,3,8,10,11,12,13,14,15,17],[],[2,3,8,10,11,12,13,14,15],[2,3,8,10,11,12,13,14,15],[2,3,8,10,12],[]]):=⟨_,by conv=>lhs;reduce⟩
def aAG:Got (lpM g3.m 0):=⟨_,by conv=>lhs;cbv⟩
def aJr:M:=aAG.m
theorem aV3:UL aJr aAG.m:=ul
def XR:Got (lpM g3.m 1):=⟨_,by conv=>lhs;cbv⟩
def aJ6:M:=XR.m
theorem aWw:UL aJ6 XR.m:=ul
def g13:GF 53 [.cell 6 62,.tmp 7,.tmp 8] .norm Tryz.f13 (kpL aM [] [[0,1,2],[3,4,5,6],[6],[3,4,5,6],[6],[3,4,5,6],[5,6,9],[6,9,10,11],[6,11],[6,9,10],[6,9],[6],[6,9]]):=⟨_,by conv=>lhs;reduce⟩
def g15:GF 26 [.tmp 4] .shut Tryz.f15 (kpL aM [] [[0,1],[0,1],[],[0,1],[0,1,5],[0,1,5],[0,1,5],[],[]]):=⟨_,by conv=>lhs;reduce⟩
def LM:Got (lpM g15.m 0):=⟨_,by conv=>lhs;cbv⟩
def aAm:M:=LM.m
theorem aPk:UL aAm LM.m:=ul
def g25:GF 3 [.cell 0 109] .shut Tryz.f25:=⟨_,by conv=>lhs;cbv⟩
def g30:GF 2 [.cell 0 95] .norm Tryz.f30:=⟨_,by conv=>lhs;cbv⟩
def g38:GF 4 [.tmp 2] .pass Tryz.f38:=⟨_,by conv=>lhs;cbv⟩
def g41:GF 30 [.tmp 2] .shut Tryz.f41:=⟨_,by conv=>lhs;cbv⟩
def g53:GF 10 [.tmp 2] .shut Tryz.f53:=⟨_,by conv=>lhs;cbv⟩
def g55:GF 12 [.tmp 2] .shut Tryz.f55:=⟨_,by conv=>lhs;cbv⟩
def g56:GF 40 [.tmp 4] .pass Tryz.f56 (kpL aM [] [[0,1],[0,1],[0,1,13,14,15],[0,1,13,14,15],[0,1,6,13,14,15],[0,1,7,8,13,14,15],[8],[0,1,7,13,14,15],[0,1,13,14,15],[]]):=⟨_,by conv=>lhs;reduce⟩
def MY:Got (lpM g56.m 0):=⟨_,by conv=>lhs;cbv⟩
def Y0:M:=MY.m
theorem aPy:UL Y0 MY.m:=ul
def g57:GF 8 [.tmp 3] .shut Tryz.f57:=⟨_,by conv=>lhs;cbv⟩
def g59:GF 15 [.tmp 6] .shut Tryz.f59:=⟨_,by conv=>lhs;cbv⟩
def g60:GF 18 [.tmp 2] .shut Tryz.f60:=⟨_,by conv=>lhs;cbv⟩
def g62:GF 32 [.cell 4 90,.tmp 5] .shut Tryz.f62:=⟨_,by conv=>lhs;cbv⟩
def g64:GF 6 [.tmp 4] .pass Tryz.f64:=⟨_,by conv=>lhs;cbv⟩
def g66:GF 16 [.cell 4 54] .shut Tryz.f66:=⟨_,by conv=>lhs;cbv⟩
def g70:GF 76 [.tmp 4,.tmp 5] .pass Tryz.f70 (kpL aM [] [[0,1],[0,3],[0,3,6],[],[0,3,6],[0,3,6,8],[],[0,3,6],[0,6,9,10,11]]):=⟨_,by conv=>lhs;reduce⟩
def g74:GF 9 [.tmp 4] .shut Tryz.f74:=⟨_,by conv=>lhs;cbv⟩
def g84:GF 13 [.tmp 5] .pass Tryz.f84:=⟨_,by conv=>lhs;cbv⟩
def g95:GF 41 [] .pass Tryz.f95:=⟨_,by conv=>lhs;cbv⟩
def g96:GF 95 [] .pass Tryz.f96:=⟨_,by conv=>lhs;cbv⟩
def g98:GF 8 [.tmp 0] .pass Tryz.f98:=⟨_,by conv=>lhs;cbv⟩
def g99:GF 5 [.tmp 2] .pass Tryz.f99:=⟨_,by conv=>lhs;cbv⟩
def aFI:GF 18 [.tmp 2] .pass Tryz.f105:=⟨_,by conv=>lhs;cbv⟩
def aGk:GF 42 [.tmp 4] .shut Tryz.f107:=⟨_,by conv=>lhs;cbv⟩
def aEt:GF 20 [] .pass Tryz.f110 (kpL aM [] [[0,1,2],[0,1,2,4],[0,1,2,4],[0,1,2,4]]):=⟨_,by conv=>lhs;reduce⟩
def aEo:GF 13 [.tmp 2] .shut Tryz.f111:=⟨_,by conv=>lhs;cbv⟩
def aDv:GF 20 [] .pass Tryz.f113 (kpL aM [] [[0,1,2]]):=⟨_,by conv=>lhs;reduce⟩
def aGR:GF 56 [.cell 4 88] .shut Tryz.f116 (kpL aM [] [[0,1],[0,3,4],[4],[0,3,4],[3,4,5],[3,4,5,19],[4,5],[3,4,5,19],[3,4,5,19],[3,4,5,19],[3,4,5],[3,4,5,19],[3,4,5],[4]]):=⟨_,by conv=>lhs;reduce⟩
def aIt:GF 28 [.cell 2 88,.tmp 3] .shut Tryz.f117 (kpL aM [] [[0],[1,2],[2],[1,2]]):=⟨_,by conv=>lhs;reduce⟩
def aE6:GF 22 [.tmp 4] .shut Tryz.f124:=⟨_,by conv=>lhs;cbv⟩
def aDn:GF 20 [] .pass Tryz.f128 (kpL aM [] [[0,1,2,3,4],[1,3,4]]):=⟨_,by conv=>lhs;reduce⟩
def aC5:GF 19 [.tmp 4] .shut Tryz.f132 (kpL aM [] [[0,1],[0,3],[0,3,7,8],[0,3,7,8],[0,3,5,7,8],[5],[0,3,7,8],[]]):=⟨_,by conv=>lhs;reduce⟩
def ET:Got (lpM aC5.m 0):=⟨_,by conv=>lhs;cbv⟩
def RY:M:=ET.m
theorem aIA:UL RY ET.m:=ul
def aDO:GF 20 [.tmp 4] .shut Tryz.f133:=⟨_,by conv=>lhs;cbv⟩
def aDm:GF 17 [.tmp 4] .shut Tryz.f140:=⟨_,by conv=>lhs;cbv⟩
def aIh:GF 21 [.tmp 6] .shut Tryz.f141:=⟨_,by conv=>lhs;cbv⟩
def aLY:GF 33 [] .pass Tryz.f143:=⟨_,by conv=>lhs;cbv⟩
def aBf:GF 13 [.tmp 4,.tmp 5,.tmp 6] .shut Tryz.f155:=⟨_,by conv=>lhs;cbv⟩
def aOT:GF 59 [.cell 2 228,.tmp 3] .pass Tryz.f157 (kpL aM [] [[0],[0,2],[0,2,4],[2],[0,2,4,14],[0,2,4,14],[0,2,4],[0,2,4],[0,2,4,5,6],[2,4,5,6,7,8],[2],[2,4,5,7],[2,4]]):=⟨_,by conv=>lhs;reduce⟩
def aGS:GF 6 [.tmp 2] .shut Tryz.f166:=⟨_,by conv=>lhs;cbv⟩
def aE1:GF 6 [.tmp 2] .pass Tryz.f167:=⟨_,by conv=>lhs;cbv⟩
def IB:GF 36 [] .pass Tryz.f173:=⟨_,by conv=>lhs;cbv⟩
def EV:Got (lpM IB.m 0):=⟨_,by conv=>lhs;cbv⟩
def QG:M:=EV.m
theorem aDc:UL QG EV.m:=ul
def EI:Got (lpM IB.m 1):=⟨_,by conv=>lhs;cbv⟩
def TE:M:=EI.m
theorem aEF:UL TE EI.m:=ul
def GJ:Got (lpM IB.m 2):=⟨_,by conv=>lhs;cbv⟩
def O2:M:=GJ.m
theorem aG0:UL O2 GJ.m:=ul
def GB:Got (lpM IB.m 3):=⟨_,by conv=>lhs;cbv⟩
def UA:M:=GB.m
theorem aEJ:UL UA GB.m:=ul
def aFV:GF 31 [.tmp 2] .pass Tryz.f178 (kpL aM [] [[0],[0],[]]):=⟨_,by conv=>lhs;reduce⟩
def aHR:GF 36 [.tmp 2] .pass Tryz.f179 (kpL aM [] [[0],[0],[0],[]]):=⟨_,by conv=>lhs;reduce⟩
def aIq:GF 23 [.tmp 2] .pass Tryz.f182 (kpL aM [] [[0],[0],[0,3,4],[0,3],[]]):=⟨_,by conv=>lhs;reduce⟩
def aJg:GF 27 [.cell 4 90,.tmp 5] .shut Tryz.f184:=⟨_,by conv=>lhs;cbv⟩
def aIL:GF 71 [.cell 6 95] .norm Tryz.f196 (kpL aM [] [[0,1,2],[0,4,5,6],[0,5,6,7],[6,7],[6,7,8],[6,7,8],[6,7,8],[6,7],[0,5,6,7],[0,5,6,7],[0,5,6,7],[5,6,7],[5,6,7],[6,7],[6,7],[6,7]]):=⟨_,by conv=>lhs;reduce⟩
def aGF:GF 36 [.tmp 2] .pass Tryz.f197:=⟨_,by conv=>lhs;cbv⟩
def aGb:GF 52 [.cell 4 81,.tmp 5,.tmp 6] .shut Tryz.f198 (kpL aM [] [[0,1],[2,3,4],[2,3,4,8],[2,4],[2,3,4,8],[2,4],[2,3,4,8],[2,4],[2,3,4,8],[2,4],[2,3,4,8],[2,3,4,8],[2,3,4],[2,3,4],[2,3,4],[2,4,8],[2,4],[2,4],[2,4],[2,4],[2,4]]):=⟨_,by conv=>lhs;reduce⟩
def aGz:GF 22 [.tmp 4,.tmp 5] .shut Tryz.f201:=⟨_,by conv=>lhs;cbv⟩
def aQG:GF 8 [.tmp 6] .pass Tryz.f211:=⟨_,by conv=>lhs;cbv⟩
def aCG:GF 141 [.tmp 8] .pass Tryz.f218:=⟨_,by conv=>lhs;cbv⟩
def FR:Got (lpM aCG.m 0):=⟨_,by conv=>lhs;cbv⟩
def EZ:M:=FR.m
theorem aD2:UL EZ FR.m:=ul
def aJj:GF 23 [.tmp 6] .shut Tryz.f221:=⟨_,by conv=>lhs;cbv⟩
def aF2:GF 101 [.tmp 4] .pass Tryz.f226 (kpL aM [] [[0,1],[0,1],[0,1],[0,12],[0],[0,12],[0,12],[0,12],[0,12],[0],[0],[0],[0,5,6],[6],[0,5],[0],[0],[0],[0],[]]):=⟨_,by conv=>lhs;reduce⟩
def aF0:GF 20 [] .pass Tryz.f231 (kpL aM [] [[0]]):=⟨_,by conv=>lhs;reduce⟩
def aD1:GF 11 [] .pass Tryz.f236:=⟨_,by conv=>lhs;cbv⟩
def aGd:GF 12 [] .pass Tryz.f238:=⟨_,by conv=>lhs;cbv⟩
def aES:GF 17 [] .pass Tryz.f239 (kpL aM [] [[0]]):=⟨_,by conv=>lhs;reduce⟩
def aEI:GF 6 [] .pass Tryz.f242:=⟨_,by conv=>lhs;cbv⟩
def aH1:GF 11 [] .pass Tryz.f244:=⟨_,by conv=>lhs;cbv⟩
def aFr:GF 16 [.tmp 1] .pass Tryz.f262:=⟨_,by conv=>lhs;cbv⟩
def aDP:GF 25 [.tmp 4,.tmp 5] .pass Tryz.f268:=⟨_,by conv=>lhs;cbv⟩
def aNU:GF 23 [.cell 4 85] .shut Tryz.f270:=⟨_,by conv=>lhs;cbv⟩
def aFB:GF 8 [] .pass Tryz.f277:=⟨_,by conv=>lhs;cbv⟩
def aD5:GF 21 [] .pass Tryz.f280 (kpL aM [] [[0]]):=⟨_,by conv=>lhs;reduce⟩
def aHE:GF 5 [] .pass Tryz.f285:=⟨_,by conv=>lhs;cbv⟩
def aI8:GF 29 [.cell 6 90] .shut Tryz.f287:=⟨_,by conv=>lhs;cbv⟩
def XU:GF 29 [] .pass Tryz.f289 (kpL aM [] [[0,1],[1,4],[1,4,17],[1,4,17],[1,4,5,17],[1,4,5,17],[1,4,17]]):=⟨_,by conv=>lhs;reduce⟩
def F4:Got (lpM XU.m 0):=⟨_,by conv=>lhs;cbv⟩
def EG:M:=F4.m
theorem aGU:UL EG F4.m:=ul
def aEy:GF 26 [.cell 4 54] .shut Tryz.f293 (kpL aM [] [[0,1],[1,2,4],[1,2,4,5,6],[2,4],[1,2,4,5]]):=⟨_,by conv=>lhs;reduce⟩
def aAF:GF 57 [.cell 2 349,.tmp 3] .pass Tryz.f301 (kpL aM [] [[0],[0,2],[0,2],[0,2],[0,2],[0,2],[0,2,4],[0,2,4,5],[0,2,4,5],[0,2,4],[2,4],[0,2,5],[2]]):=⟨_,by conv=>lhs;reduce⟩
def E9:Got (lpM aAF.m 0):=⟨_,by conv=>lhs;cbv⟩
def QF:M:=E9.m
theorem aFL:UL QF E9.m:=ul
def aG3:GF 45 [.tmp 4] .shut Tryz.f310 (kpL aM [6] [[0,1],[1,2,4],[],[1,2,4],[2,4,5],[5],[2,4,5],[2,5],[2,4,5],[2,4,5,6],[6,36],[6,7],[5,6]]):=⟨_,by conv=>lhs;reduce⟩
def aQD:GF 3 [.tmp 0] .shut Tryz.f311:=⟨_,by conv=>lhs;cbv⟩
def aIs:GF 13 [.tmp 2] .pass Tryz.f317 (kpL aM [] [[0],[0]]):=⟨_,by conv=>lhs;reduce⟩
def aIJ:GF 35 [.tmp 2] .shut Tryz.f329:=⟨_,by conv=>lhs;cbv⟩
def g9:GF 24 [.cell 4 44,.tmp 5] .shut Tryz.f9 (kpL aM [] [[0,1],[1,2,4],[2,4,6,7],[2,4,7]]):=⟨_,by conv=>lhs;reduce⟩
def g10:GF 84 [.cell 2 62,.tmp 3] .norm Tryz.f10 (kpL aM [] [[0],[1,2],[2],[1,2],[1,2,4],[1,2,4,15,16],[1,2,4,15,16],[1,2,4,15,16],[1,2,4,15,16],[1,2,4],[1,2,4,39,40],[1,2,4,39,40],[1,2,4,5,39,40],[1,2,4,5,6,39,40],[1,2,4,5,6,39,40,46,47,48],[1,2,4,5,6,39,40,46,47,48],[1,2,4,5,6,8,39,40,46,47,48],[1,2,4,5,6,8,39,40,46,47,48],[1,2,4,5,6,39,40,46,47,48],[1,2,4,5,6,39,40],[1,2,4,39,40],[2,4]]):=⟨_,by conv=>lhs;reduce⟩
def LQ:Got (lpM g10.m 1):=⟨_,by conv=>lhs;cbv⟩
def aAs:M:=LQ.m
theorem aLH:UL aAs LQ.m:=ul
def NS:Got (lpM g10.m 2):=⟨_,by conv=>lhs;cbv⟩
def aBC:M:=NS.m
theorem aM2:UL aBC NS.m:=ul
def g14:GF 77 [.tmp 4] .shut Tryz.f14:=⟨_,by conv=>lhs;cbv⟩
def OZ:Got (lpM g14.m 0):=⟨_,by conv=>lhs;cbv⟩
def aBx:M:=OZ.m
theorem aLl:UL aBx OZ.m:=ul
def NN:Got (lpM g14.m 1):=⟨_,by conv=>lhs;cbv⟩
def M7:M:=NN.m
theorem aOh:UL M7 NN.m:=ul
def g24:GF 23 [.cell 6 44] .pass Tryz.f24:=⟨_,by conv=>lhs;cbv⟩
def g35:GF 12 [.cell 6 58] .shut Tryz.f35 (kpL aM [] [[0,1,2],[0,1,5,6]]):=⟨_,by conv=>lhs;reduce⟩
def g37:GF 26 [.tmp 4] .pass Tryz.f37:=⟨_,by conv=>lhs;cbv⟩
def g39:GF 29 [.tmp 4,.tmp 5] .pass Tryz.f39 (kpL aM [] [[0,1],[0,3],[],[0,3],[3,6,7],[],[3,6]]):=⟨_,by conv=>lhs;reduce⟩
def g44:GF 8 [.tmp 6] .pass Tryz.f44:=⟨_,by conv=>lhs;cbv⟩
def g50:GF 6 [.tmp 2] .shut Tryz.f50:=⟨_,by conv=>lhs;cbv⟩
def g58:GF 35 [.tmp 4] .shut Tryz.f58:=⟨_,by conv=>lhs;cbv⟩
def g65:GF 11 [.tmp 4] .shut Tryz.f65:=⟨_,by conv=>lhs;cbv⟩
def g67:GF 46 [.tmp 4,.tmp 5] .pass Tryz.f67 (kpL aM [] [[0,1],[2,3],[2,6],[2,6,7],[2,6,7,28],[2,6,7],[2,6,7,28],[2,6,7],[2,6,7],[]]):=⟨_,by conv=>lhs;reduce⟩
def g71:GF 144 [.tmp 4,.tmp 5] .pass Tryz.f71 (kpL aM [] [[0,1],[2,3],[2,6],[2,6,7],[2,6,7,8],[],[2,6,7,8],[],[2,6,7,8],[2,6,9,11],[11],[2,6,9],[2,6,9],[2,6,9,12],[2,9,12,13,14,15,16],[2,9,16,17],[2,6,9],[2,6,9],[2,6,9,18,19,20],[]]):=⟨_,by conv=>lhs;reduce⟩
def g72:GF 96 [] .pass Tryz.f72 (kpL aM [] [[0,1],[0,1,3],[0,1,3,20,21],[0,1,3,20,21],[0,1,3,5,20,21],[0,1,3,5,20,21,24,25],[0,1,3,5,20,21,24,25],[0,1,3,5,6,20,21,24,25],[0,1,3,5,20,21,24,25],[0,1,3,20,21],[0,1,3],[0,1,36,37],[0,1,36,37],[0,1,7,36,37],[0,1,7,36,37,46,47],[0,1,7,36,37,46,47],[0,1,7,8,36,37,46,47],[0,1,7,36,37,46,47],[0,1,36,37],[0,1],[0,1,9],[0,1,9,69,70,71],[0,1,9,69,70,71],[0,1,9,11,69,70,71],[0,1,9,12,69,70,71],[0,1,9,12,69,70,71],[0,1,9,12,69,70,71],[0,1,9,69,70,71]]):=⟨_,by conv=>lhs;reduce⟩
def LN:Got (lpM g72.m 1):=⟨_,by conv=>lhs;cbv⟩
def aAi:M:=LN.m
theorem aOB:UL aAi LN.m:=ul
def L1:Got (lpM g72.m 2):=⟨_,by conv=>lhs;cbv⟩
def aAR:M:=L1.m
theorem aPI:UL aAR L1.m:=ul
def MQ:Got (lpM g72.m 3):=⟨_,by conv=>lhs;cbv⟩
def aCV:M:=MQ.m
theorem aQf:UL aCV MQ.m:=ul
def MW:Got (lpM g72.m 4):=⟨_,by conv=>lhs;cbv⟩
def aCW:M:=MW.m
theorem aM0:UL aCW MW.m:=ul
def g73:GF 19 [.tmp 4] .norm Tryz.f73 (kpL aM [5] [[0,1],[0,1,4],[],[0,1,4],[0,1,4,5],[5,13],[5,6],[5]]):=⟨_,by conv=>lhs;reduce⟩
def LF:Got (lpM g73.m 0):=⟨_,by conv=>lhs;cbv⟩
def G0:M:=LF.m
theorem aON:UL G0 LF.m:=ul
def N9:Got (lpM g73.m 1):=⟨_,by conv=>lhs;cbv⟩
def E1:M:=N9.m
theorem aP5:UL E1 N9.m:=ul
def g81:GF 10 [.tmp 4] .shut Tryz.f81:=⟨_,by conv=>lhs;cbv⟩
def g82:GF 22 [.cell 8 3,.cell 9 4] .pass Tryz.f82 (kpL aM [7,8,9] [[0,1,2,3],[1,2,4,7,8,9],[7,8,9,16,17],[7,8,9,10,17],[7,8,9,10,11],[8,9,10],[8,9]]):=⟨_,by conv=>lhs;reduce⟩
def M3:Got (lpM g82.m 0):=⟨_,by conv=>lhs;cbv⟩
def pK:M:=M3.m
theorem aKW:UL pK M3.m:=ul
def OQ:Got (lpM g82.m 1):=⟨_,by conv=>lhs;cbv⟩
def pQ:M:=OQ.m
theorem aNn:UL pQ OQ.m:=ul
def g94:GF 10 [.tmp 2] .shut Tryz.f94:=⟨_,by conv=>lhs;cbv⟩
def aA0:GF 32 [.tmp 2] .shut Tryz.f100:=⟨_,by conv=>lhs;cbv⟩
def EH:Got (lpM aA0.m 0):=⟨_,by conv=>lhs;cbv⟩
def HA:M:=EH.m
theorem aHB:UL HA EH.m:=ul
def aL9:GF 22 [.tmp 2] .shut Tryz.f103 (kpL aM [3] [[0],[1,2],[],[1,2],[1,2,3],[3,10,11],[3,4,11],[3,4,5],[3,4],[3]]):=⟨_,by conv=>lhs;reduce⟩
def aIV:GF 8 [.cell 4 85] .shut Tryz.f109:=⟨_,by conv=>lhs;cbv⟩
def aDQ:GF 40 [.tmp 8,.tmp 9] .pass Tryz.f115 (kpL aM [] [[0,1,2,3],[4,5,6,7],[],[4,5,6,7],[4,5,7,10,11],[11],[4,5,7,10]]):=⟨_,by conv=>lhs;reduce⟩
def NC:GF 123 [.cell 8 90,.tmp 9,.tmp 10,.tmp 11] .shut Tryz.f118:=⟨_,by conv=>lhs;cbv⟩
def aDG:GF 29 [.tmp 4,.cell 5 73,.tmp 6] .norm Tryz.f123 (kpL aM [] [[0,1],[0,1,5],[5],[0,1,5]]):=⟨_,by conv=>lhs;reduce⟩
def aIO:GF 10 [] .pass Tryz.f126:=⟨_,by conv=>lhs;cbv⟩
def aD8:GF 9 [.tmp 4] .norm Tryz.f129:=⟨_,by conv=>lhs;cbv⟩
def aG5:GF 13 [.tmp 3] .pass Tryz.f135:=⟨_,by conv=>lhs;cbv⟩
def aMt:GF 22 [] .pass Tryz.f142 (kpL aM [] [[0,1,2,3,4]]):=⟨_,by conv=>lhs;reduce⟩
def aMI:GF 4 [.tmp 2] .pass Tryz.f146:=⟨_,by conv=>lhs;cbv⟩
def aFe:GF 12 [.tmp 4,.tmp 5] .pass Tryz.f150:=⟨_,by conv=>lhs;cbv⟩
def aLZ:GF 5 [.tmp 2] .shut Tryz.f152:=⟨_,by conv=>lhs;cbv⟩
def aM9:GF 65 [.tmp 4] .shut Tryz.f156:=⟨_,by conv=>lhs;cbv⟩
def aGm:GF 21 [.tmp 2] .pass Tryz.f165:=⟨_,by conv=>lhs;cbv⟩
def aOJ:GF 43 [.cell 4 85] .shut Tryz.f176:=⟨_,by conv=>lhs;cbv⟩
def aED:GF 15 [.cell 2 95] .pass Tryz.f177:=⟨_,by conv=>lhs;cbv⟩
def aDd:GF 30 [.tmp 2] .pass Tryz.f181 (kpL aM [] [[0],[0],[]]):=⟨_,by conv=>lhs;reduce⟩
def aHM:GF 21 [.tmp 6,.tmp 7] .shut Tryz.f190 (kpL aM [] [[0,1,2],[2,3,4],[],[2,3,4],[2,4,8]]):=⟨_,by conv=>lhs;reduce⟩
def aGw:GF 14 [.tmp 3] .pass Tryz.f191:=⟨_,by conv=>lhs;cbv⟩
def aHf:GF 32 [.tmp 6] .shut Tryz.f199:=⟨_,by conv=>lhs;cbv⟩
def aHU:GF 10 [.tmp 2] .shut Tryz.f202:=⟨_,by conv=>lhs;cbv⟩
def aJe:GF 20 [.cell 4 171] .shut Tryz.f205 (kpL aM [] [[0,1],[1,2,4],[2,4],[2,4]]):=⟨_,by conv=>lhs;reduce⟩
def aN1:GF 19 [.tmp 2] .shut Tryz.f209:=⟨_,by conv=>lhs;cbv⟩
def aNC:GF 29 [.tmp 4,.tmp 5] .shut Tryz.f210:=⟨_,by conv=>lhs;cbv⟩
def KI:GF 53 [] .pass Tryz.f213:=⟨_,by conv=>lhs;cbv⟩
def FZ:Got (lpM KI.m 0):=⟨_,by conv=>lhs;cbv⟩
def QP:M:=FZ.m
theorem aFF:UL QP FZ.m:=ul
def ES:Got (lpM KI.m 1):=⟨_,by conv=>lhs;cbv⟩
def TM:M:=ES.m
theorem aE0:UL TM ES.m:=ul
def F2:Got (lpM KI.m 2):=⟨_,by conv=>lhs;cbv⟩
def PA:M:=F2.m
theorem aFz:UL PA F2.m:=ul
def GP:Got (lpM KI.m 3):=⟨_,by conv=>lhs;cbv⟩
def UD:M:=GP.m
theorem aGn:UL UD GP.m:=ul
def W7:GF 27 [.cell 2 344,.cell 3 3,.cell 4 63] .shut Tryz.f214 (kpL aM [2,3,4] [[0],[0,2,3,4],[2,3,4],[0,2,3,4],[2,3,4,5],[2,3,4,15,16],[2,3,4,6,16],[2,3,4,6,7],[2,3,4,6,7],[2,6],[2,3,4]]):=⟨_,by conv=>lhs;reduce⟩
def EN:Got (lpM W7.m 0):=⟨_,by conv=>lhs;cbv⟩
def rU:M:=EN.m
theorem aEb:UL rU EN.m:=ul
def D8:Got (lpM W7.m 1):=⟨_,by conv=>lhs;cbv⟩
def rQ:M:=D8.m
theorem aFh:UL rQ D8.m:=ul
def aDI:GF 9 [.tmp 4] .shut Tryz.f216:=⟨_,by conv=>lhs;cbv⟩
def aLA:GF 7 [.tmp 0] .shut Tryz.f219:=⟨_,by conv=>lhs;cbv⟩
def aIK:GF 21 [] .pass Tryz.f220 (kpL aM [] [[0,1],[0,1]]):=⟨_,by conv=>lhs;reduce⟩
def aGI:GF 23 [.tmp 6] .shut Tryz.f222:=⟨_,by conv=>lhs;cbv⟩
def aJa:GF 27 [.tmp 4] .pass Tryz.f227:=⟨_,by conv=>lhs;cbv⟩
def aDK:GF 30 [.tmp 4] .shut Tryz.f228:=⟨_,by conv=>lhs;cbv⟩
def aHZ:GF 22 [] .pass Tryz.f233 (kpL aM [] [[0],[0]]):=⟨_,by conv=>lhs;reduce⟩
def aHS:GF 27 [] .pass Tryz.f240 (kpL aM [] [[0],[0],[0]]):=⟨_,by conv=>lhs;reduce⟩
def aHX:GF 20 [] .pass Tryz.f243:=⟨_,by conv=>lhs;cbv⟩
def aHu:GF 9 [.tmp 2] .shut Tryz.f245:=⟨_,by conv=>lhs;cbv⟩
def aOK:GF 52 [] .pass Tryz.f247:=⟨_,by conv=>lhs;cbv⟩
def aEZ:GF 4 [.tmp 2] .pass Tryz.f251:=⟨_,by conv=>lhs;cbv⟩
def aEW:GF 22 [.tmp 2] .shut Tryz.f253:=⟨_,by conv=>lhs;cbv⟩
def aDB:GF 16 [.tmp 2] .shut Tryz.f254:=⟨_,by conv=>lhs;cbv⟩
def aGP:GF 67 [.cell 2 109] .pass Tryz.f258:=⟨_,by conv=>lhs;cbv⟩
def aHb:GF 11 [.tmp 2] .shut Tryz.f263:=⟨_,by conv=>lhs;cbv⟩
def aLN:GF 45 [.cell 4 85] .shut Tryz.f267 (kpL aM [] [[0,1],[1,2,4],[1,2,4,8,9],[1,2,4,8,9],[1,2,4,5,8,9],[1,2,4,5],[1,2,4,8,9],[1,2,4],[2,4]]):=⟨_,by conv=>lhs;reduce⟩
def aO6:GF 7 [.cell 4 85] .shut Tryz.f269:=⟨_,by conv=>lhs;cbv⟩
def aHg:GF 55 [.tmp 4,.tmp 5] .pass Tryz.f271:=⟨_,by conv=>lhs;cbv⟩
def aFn:GF 35 [.tmp 2] .shut Tryz.f274:=⟨_,by conv=>lhs;cbv⟩
def aFx:GF 16 [.tmp 4] .pass Tryz.f275 (kpL aM [] [[0,1,2],[0,1,2]]):=⟨_,by conv=>lhs;reduce⟩
def aHV:GF 11 [] .pass Tryz.f282:=⟨_,by conv=>lhs;cbv⟩
def aHz:GF 92 [] .pass Tryz.f284 (kpL aM [] [[0],[0,2],[0,2],[0,2,3],[0,2,3,4],[0,2,3,4],[0,2,3,4],[0,2,3,4]]):=⟨_,by conv=>lhs;reduce⟩
def aAb:GF 8 [.tmp 4] .shut Tryz.f296:=⟨_,by conv=>lhs;cbv⟩
def aFM:GF 13 [.tmp 2] .pass Tryz.f306 (kpL aM [] [[0],[0]]):=⟨_,by conv=>lhs;reduce⟩
def aHk:GF 27 [.tmp 4] .shut Tryz.f307:=⟨_,by conv=>lhs;cbv⟩
def aIr:GF 28 [.cell 4 85] .shut Tryz.f309 (kpL aM [] [[0,1],[1,2,4],[2,4],[1,2,4]]):=⟨_,by conv=>lhs;reduce⟩
def XH:GF 47 [.tmp 2,.tmp 3] .shut Tryz.f318:=⟨_,by conv=>lhs;cbv⟩
def aNF:List (Nat×List Value):=[(7,[.int .u8 0,.int .u8 1,.int .u8 56,.int .u8 2,.int .u8 57,.int .u8 49,.int .u8 28,.int .u8 3,.int .u8 61,.int .u8 58,.int .u8 42,.int .u8 50,.int .u8 38,.int .u8 29,.int .u8 17,.int .u8 4,.int .u8 62,.int .u8 47,.int .u8 59,.int .u8 36,.int .u8 45,.int .u8 43,.int .u8 51,.int .u8 22,.int .u8 53,.int .u8 39,.int .u8 33,.int .u8 30,.int .u8 24,.int .u8 18,.int .u8 12,.int .u8 5,.int .u8 63,.int .u8 55,.int .u8 48,.int .u8 27,.int .u8 60,.int .u8 41,.int .u8 37,.int .u8 16,.int .u8 46,.int .u8 35,.int .u8 44,.int .u8 21,.int .u8 52,.int .u8 32,.int .u8 23,.int .u8 11,.int .u8 54,.int .u8 26,.int .u8 40,.int .u8 15,.int .u8 34,.int .u8 20,.int .u8 31,.int .u8 10,.int .u8 25,.int .u8 14,.int .u8 19,.int .u8 9,.int .u8 13,.int .u8 8,.int .u8 7,.int .u8 6]),(0,[.int .i64 4,.int .i64 2,.int .i64 4,.int .i64 4,.int .i64 4]),(4,[.int .u8 0,.int .u8 35,.int .u8 38,.int .u8 29,.int .u8 7,.int .u8 7,.int .u8 15,.int .u8 32,.int .u8 92]),(2,[.int .u8 0,.int .u8 1,.int .u8 1,.int .u8 1,.int .u8 3,.int .u8 3,.int .u8 2,.int .u8 2,.int .u8 2,.int .u8 2,.int .u8 3,.int .u8 3,.int .u8 3]),(1,[.string ⟨#[]⟩,.string ⟨#[]⟩,.string ⟨#[]⟩,.string ⟨#[]⟩,.string ⟨#[]⟩,.string ⟨#[]⟩,.string ⟨#[]⟩,.string ⟨#[]⟩,.string ⟨#[]⟩,.string ⟨#[]⟩,.string ⟨#[]⟩,.string ⟨#[]⟩,.string ⟨#[]⟩,.string ⟨#[]⟩,.string ⟨#[]⟩,.string ⟨#[73]⟩,.string ⟨#[83]⟩,.string ⟨#[69]⟩,.string ⟨#[79]⟩,.string ⟨#[77]⟩,.string ⟨#[73,83]⟩,.string ⟨#[73,77]⟩,.string ⟨#[83,77]⟩,.string ⟨#[79,77]⟩,.string ⟨#[73,65]⟩,.string ⟨#[77,73]⟩,.string ⟨#[73,73]⟩,.string ⟨#[]⟩,.string ⟨#[]⟩,.string ⟨#[]⟩,.string ⟨#[108,111,97,100]⟩,.string ⟨#[115,116,111,114,101]⟩,.string ⟨#[101,118,105,99,116]⟩,.string ⟨#[102,119,100,115]⟩,.string ⟨#[102,119,100,109]⟩,.string ⟨#[105,110,118]⟩,.string ⟨#[112,117,116]⟩,.string ⟨#[118,97,108,117,101]⟩,.string ⟨#[97,108,111,110,101]⟩,.string ⟨#[109,111,114,101]⟩,.string ⟨#[103,114,97,110,116]⟩,.string ⟨#[115,111,111,110]⟩,.string ⟨#[97,99,107]⟩,.string ⟨#[108,97,115,116]⟩,.string ⟨#[]⟩,.string ⟨#[116,97,107,101]⟩,.string ⟨#[97,115,107]⟩,.string ⟨#[97,115,107,109]⟩,.string ⟨#[112,117,116]⟩,.string ⟨#[103,105,118,101]⟩,.string ⟨#[99,111,112,121]⟩,.string ⟨#[105,110,118]⟩,.string ⟨#[100,111,110,101]⟩,.string ⟨#[100,111]⟩,.string ⟨#[100,114,111,112]⟩,.string ⟨#[]⟩,.string ⟨#[]⟩,.string ⟨#[]⟩,.string ⟨#[]⟩,.string ⟨#[]⟩,.string ⟨#[85,110]⟩,.string ⟨#[83,104]⟩,.string ⟨#[69,120]⟩,.string ⟨#[79,119]⟩,.string ⟨#[]⟩,.string ⟨#[]⟩,.string ⟨#[]⟩,.string ⟨#[]⟩,.string ⟨#[]⟩,.string ⟨#[]⟩,.string ⟨#[]⟩,.string ⟨#[]⟩,.string ⟨#[]⟩,.string ⟨#[]⟩,.string ⟨#[]⟩,.string ⟨#[103,101,116,115]⟩,.string ⟨#[103,101,116,109]⟩,.string ⟨#[117,112]⟩,.string ⟨#[98,97,99,107]⟩,.string ⟨#[115,116,97,108,101]⟩,.string ⟨#[]⟩,.string ⟨#[]⟩,.string ⟨#[]⟩,.string ⟨#[]⟩,.string ⟨#[]⟩,.string ⟨#[]⟩,.string ⟨#[]⟩,.string ⟨#[]⟩,.string ⟨#[]⟩,.string ⟨#[]⟩,.string ⟨#[105,110,118,115]⟩,.string ⟨#[109,101,109]⟩,.string ⟨#[97,108,111,110,101]⟩,.string ⟨#[102,119,100,115]⟩,.string ⟨#[102,119,100,109]⟩,.string ⟨#[103,114,97,110,116]⟩,.string ⟨#[119,114,105,116,101]⟩,.string ⟨#[98,97,99,107]⟩,.string ⟨#[99,108,101,97,114]⟩,.string ⟨#[110,111,116,101]⟩,.string ⟨#[98,111,116,104]⟩,.string ⟨#[111,119,110]⟩,.string ⟨#[102,114,101,101]⟩,.string ⟨#[98,117,115,121]⟩,.string ⟨#[116,119,105,99,101]⟩])]
def aRC:BT Ty:=(.node 178 DN.t (.node 59 aHc (.node 36 aH7.t (.node 23 aEq.t (.node 9 th9.t (.node 4 th4.t (.node 3 th3.t (.node 1 th1.t .nil .nil) .nil) (.node 5 th5.t .nil .nil)) (.node 21 aH6.t (.node 20 aI4.t .nil .nil) (.node 22 aGc.t .nil .nil))) (.node 29 aGE.t (.node 25 aHp.t (.node 24 aFf.t .nil .nil) (.node 27 aEV.t .nil .nil)) (.node 33 aEv.t (.node 31 aIY.t .nil .nil) (.node 34 aIP.t .nil .nil)))) (.node 49 aDe.t (.node 42 aAd (.node 39 aH0.t (.node 38 aFA (.node 37 aG1 .nil .nil) .nil) (.node 40 aEN .nil .nil)) (.node 45 aFq.t (.node 44 aJf .nil .nil) (.node 46 aGW.t .nil .nil))) (.node 54 aG6.t (.node 51 aFN.t (.node 50 aGH.t .nil .nil) (.node 52 aHQ.t .nil .nil)) (.node 56 aC8.t (.node 55 aDq.t .nil .nil) (.node 58 aG7.t .nil .nil))))) (.node 93 NO.t (.node 81 aG2.t (.node 69 aIT.t (.node 63 aHI.t (.node 62 aID.t (.node 60 MO.t .nil .nil) .nil) (.node 66 aGv.t .nil .nil)) (.node 75 aHC.t (.node 73 W6.t .nil .nil) (.node 79 aIm.t .nil .nil))) (.node 86 aDi.t (.node 83 aGL (.node 82 aIv .nil .nil) (.node 85 aHd.t .nil .nil)) (.node 90 aHO (.node 88 aDl.t .nil .nil) (.node 92 aH4.t .nil .nil)))) (.node 130 SO.t (.node 109 SF.t (.node 104 RF.t (.node 95 aEh.t .nil .nil) (.node 107 TJ.t .nil .nil)) (.node 122 S8.t (.node 111 S9.t .nil .nil) (.node 128 P1.t .nil .nil))) (.node 151 SX (.node 136 TS.t (.node 132 QT.t .nil .nil) (.node 149 TI.t .nil .nil)) (.node 159 TD.t (.node 157 R3.t .nil .nil) (.node 171 QX.t .nil .nil)))))) (.node 340 SE.t (.node 267 PR.t (.node 216 RI.t (.node 202 O7.t (.node 186 RO.t (.node 182 QA.t (.node 181 T0.t .nil .nil) .nil) (.node 187 TQ.t .nil .nil)) (.node 210 TF.t (.node 203 QL.t .nil .nil) (.node 213 RZ.t .nil .nil))) (.node 226 RR.t (.node 220 Q5.t (.node 218 ST.t .nil .nil) (.node 224 SH.t .nil .nil)) (.node 230 Q9.t (.node 228 SL.t .nil .nil) (.node 233 P7.t .nil .nil)))) (.node 303 QQ.t (.node 278 QO.t (.node 272 RQ.t (.node 270 PQ.t (.node 268 QN.t .nil .nil) .nil) (.node 277 P4.t .nil .nil)) (.node 293 O1.t (.node 292 RJ.t .nil .nil) (.node 302 TV.t .nil .nil))) (.node 323 O3.t (.node 306 RB.t (.node 305 PG.t .nil .nil) (.node 316 RC.t .nil .nil)) (.node 331 Q2.t (.node 329 QZ.t .nil .nil) (.node 337 QC.t .nil .nil))))) (.node 375 RK.t (.node 358 RG.t (.node 352 SP.t (.node 347 R4.t (.node 344 UE.t (.node 342 TB.t .nil .nil) .nil) (.node 349 TK.t .nil .nil)) (.node 356 TO.t (.node 353 PZ.t .nil .nil) (.node 357 R6.t .nil .nil))) (.node 368 P5.t (.node 362 R5.t (.node 360 SU.t .nil .nil) (.node 364 RU.t .nil .nil)) (.node 371 R7.t (.node 369 T3.t .nil .nil) (.node 374 PY.t .nil .nil)))) (.node 403 TZ.t (.node 383 PE.t (.node 377 PJ.t (.node 376 TA.t .nil .nil) (.node 378 Q6 .nil .nil)) (.node 390 Q7.t (.node 385 SQ.t .nil .nil) (.node 394 Q4.t .nil .nil))) (.node 419 SD.t (.node 411 RX.t (.node 406 RH.t .nil .nil) (.node 417 SA.t .nil .nil)) (.node 435 S6.t (.node 422 RV.t .nil .nil) (.node 438 SW .nil .nil)))))))
def aPg:BT MFn:=(.node 170 aGf.fn (.node 85 g85.fn (.node 45 g45.fn (.node 27 g27.fn (.node 14 g14.fn (.node 9 g9.fn (.node 5 g5.fn (.node 4 g4.fn (.node 3 g3.fn .nil .nil) .nil) (.node 8 g8.fn .nil .nil)) (.node 12 g12.fn (.node 11 g11.fn (.node 10 g10.fn .nil .nil) .nil) (.node 13 g13.fn .nil .nil))) (.node 19 g19.fn (.node 17 g17.fn (.node 16 g16.fn (.node 15 g15.fn .nil .nil) .nil) (.node 18 g18.fn .nil .nil)) (.node 25 g25.fn (.node 24 g24.fn .nil .nil) (.node 26 g26.fn .nil .nil)))) (.node 36 g36.fn (.node 32 g32.fn (.node 30 g30.fn (.node 29 g29.fn (.node 28 g28.fn .nil .nil) .nil) (.node 31 g31.fn .nil .nil)) (.node 34 g34.fn (.node 33 g33.fn .nil .nil) (.node 35 g35.fn .nil .nil))) (.node 41 g41.fn (.node 39 g39.fn (.node 38 g38.fn (.node 37 g37.fn .nil .nil) .nil) (.node 40 g40.fn .nil .nil)) (.node 43 g43.fn (.node 42 g42.fn .nil .nil) (.node 44 g44.fn .nil .nil))))) (.node 67 g67.fn (.node 58 g58.fn (.node 53 g53.fn (.node 50 g50.fn (.node 47 g47.fn (.node 46 g46.fn .nil .nil) .nil) (.node 52 g52.fn .nil .nil)) (.node 56 g56.fn (.node 55 g55.fn (.node 54 g54.fn .nil .nil) .nil) (.node 57 g57.fn .nil .nil))) (.node 63 g63.fn (.node 61 g61.fn (.node 60 g60.fn (.node 59 g59.fn .nil .nil) .nil) (.node 62 g62.fn .nil .nil)) (.node 65 g65.fn (.node 64 g64.fn .nil .nil) (.node 66 g66.fn .nil .nil)))) (.node 76 g76.fn (.node 72 g72.fn (.node 70 g70.fn (.node 69 g69.fn (.node 68 g68.fn .nil .nil) .nil) (.node 71 g71.fn .nil .nil)) (.node 74 g74.fn (.node 73 g73.fn .nil .nil) (.node 75 g75.fn .nil .nil))) (.node 81 g81.fn (.node 79 g79.fn (.node 78 g78.fn (.node 77 g77.fn .nil .nil) .nil) (.node 80 g80.fn .nil .nil)) (.node 83 g83.fn (.node 82 g82.fn .nil .nil) (.node 84 g84.fn .nil .nil)))))) (.node 129 aD8.fn (.node 111 aEo.fn (.node 102 aQd.fn (.node 97 g97.fn (.node 95 g95.fn (.node 94 g94.fn (.node 89 g89.fn .nil .nil) .nil) (.node 96 g96.fn .nil .nil)) (.node 100 aA0.fn (.node 99 g99.fn (.node 98 g98.fn .nil .nil) .nil) (.node 101 MC.fn .nil .nil))) (.node 107 aGk.fn (.node 105 aFI.fn (.node 104 V8.fn (.node 103 aL9.fn .nil .nil) .nil) (.node 106 aER.fn .nil .nil)) (.node 109 aIV.fn (.node 108 aEP.fn .nil .nil) (.node 110 aEt.fn .nil .nil)))) (.node 120 aGo.fn (.node 116 aGR.fn (.node 114 aFZ.fn (.node 113 aDv.fn (.node 112 aDf.fn .nil .nil) .nil) (.node 115 aDQ.fn .nil .nil)) (.node 118 NC.fn (.node 117 aIt.fn .nil .nil) (.node 119 aEM.fn .nil .nil))) (.node 125 aEf.fn (.node 123 aDG.fn (.node 122 aC9.fn (.node 121 aBF.fn .nil .nil) .nil) (.node 124 aE6.fn .nil .nil)) (.node 127 aEd.fn (.node 126 aIO.fn .nil .nil) (.node 128 aDn.fn .nil .nil))))) (.node 152 aLZ.fn (.node 143 aLY.fn (.node 134 aIU.fn (.node 132 aC5.fn (.node 131 aDF.fn (.node 130 aHK.fn .nil .nil) .nil) (.node 133 aDO.fn .nil .nil)) (.node 141 aIh.fn (.node 140 aDm.fn (.node 135 aG5.fn .nil .nil) .nil) (.node 142 aMt.fn .nil .nil))) (.node 148 aI5.fn (.node 146 aMI.fn (.node 145 aRf.fn (.node 144 aOQ.fn .nil .nil) .nil) (.node 147 aLU.fn .nil .nil)) (.node 150 aFe.fn (.node 149 aMT.fn .nil .nil) (.node 151 aO0.fn .nil .nil)))) (.node 161 aGM.fn (.node 157 aOT.fn (.node 155 aBf.fn (.node 154 aQp.fn (.node 153 aPS.fn .nil .nil) .nil) (.node 156 aM9.fn .nil .nil)) (.node 159 aFc.fn (.node 158 aGJ.fn .nil .nil) (.node 160 X8.fn .nil .nil))) (.node 166 aGS.fn (.node 164 aCF.fn (.node 163 aFa.fn (.node 162 aDp.fn .nil .nil) .nil) (.node 165 aGm.fn .nil .nil)) (.node 168 aF1.fn (.node 167 aE1.fn .nil .nil) (.node 169 U9.fn .nil .nil))))))) (.node 249 aCJ.fn (.node 209 aN1.fn (.node 189 aCg.fn (.node 180 aGO.fn (.node 175 aQl.fn (.node 173 IB.fn (.node 172 aFg.fn (.node 171 aGB.fn .nil .nil) .nil) (.node 174 aRK.fn .nil .nil)) (.node 178 aFV.fn (.node 177 aED.fn (.node 176 aOJ.fn .nil .nil) .nil) (.node 179 aHR.fn .nil .nil))) (.node 185 aDs.fn (.node 183 aIx.fn (.node 182 aIq.fn (.node 181 aDd.fn .nil .nil) .nil) (.node 184 aJg.fn .nil .nil)) (.node 187 aGr.fn (.node 186 aIz.fn .nil .nil) (.node 188 aIu.fn .nil .nil)))) (.node 198 aGb.fn (.node 194 aD0.fn (.node 192 U0.fn (.node 191 aGw.fn (.node 190 aHM.fn .nil .nil) .nil) (.node 193 aAe.fn .nil .nil)) (.node 196 aIL.fn (.node 195 Y4.fn .nil .nil) (.node 197 aGF.fn .nil .nil))) (.node 203 aBI.fn (.node 201 aGz.fn (.node 200 aIj.fn (.node 199 aHf.fn .nil .nil) .nil) (.node 202 aHU.fn .nil .nil)) (.node 205 aJe.fn (.node 204 aBq.fn .nil .nil) (.node 206 X4.fn .nil .nil))))) (.node 229 aDz.fn (.node 219 aLA.fn (.node 214 W7.fn (.node 212 ZP.fn (.node 211 aQG.fn (.node 210 aNC.fn .nil .nil) .nil) (.node 213 KI.fn .nil .nil)) (.node 217 aFE.fn (.node 216 aDI.fn (.node 215 XI.fn .nil .nil) .nil) (.node 218 aCG.fn .nil .nil))) (.node 225 aQg.fn (.node 222 aGI.fn (.node 221 aJj.fn (.node 220 aIK.fn .nil .nil) .nil) (.node 224 aFQ.fn .nil .nil)) (.node 227 aJa.fn (.node 226 aF2.fn .nil .nil) (.node 228 aDK.fn .nil .nil)))) (.node 238 aGd.fn (.node 234 aH5.fn (.node 232 aHe.fn (.node 231 aF0.fn (.node 230 aI0.fn .nil .nil) .nil) (.node 233 aHZ.fn .nil .nil)) (.node 236 aD1.fn (.node 235 aGA.fn .nil .nil) (.node 237 aEw.fn .nil .nil))) (.node 243 aHX.fn (.node 241 aIw.fn (.node 240 aHS.fn (.node 239 aES.fn .nil .nil) .nil) (.node 242 aEI.fn .nil .nil)) (.node 245 aHu.fn (.node 244 aH1.fn .nil .nil) (.node 247 aOK.fn .nil .nil)))))) (.node 286 aFT.fn (.node 268 aDP.fn (.node 259 aGX.fn (.node 254 aDB.fn (.node 252 aOd.fn (.node 251 aEZ.fn (.node 250 ZU.fn .nil .nil) .nil) (.node 253 aEW.fn .nil .nil)) (.node 257 aF3.fn (.node 256 aGp.fn (.node 255 aBd.fn .nil .nil) .nil) (.node 258 aGP.fn .nil .nil))) (.node 264 aF4.fn (.node 262 aFr.fn (.node 261 aFW.fn (.node 260 aE8.fn .nil .nil) .nil) (.node 263 aHb.fn .nil .nil)) (.node 266 aGD.fn (.node 265 aIS.fn .nil .nil) (.node 267 aLN.fn .nil .nil)))) (.node 277 aFB.fn (.node 273 aNm.fn (.node 271 aHg.fn (.node 270 aNU.fn (.node 269 aO6.fn .nil .nil) .nil) (.node 272 aGV.fn .nil .nil)) (.node 275 aFx.fn (.node 274 aFn.fn .nil .nil) (.node 276 aIk.fn .nil .nil))) (.node 282 aHV.fn (.node 280 aD5.fn (.node 279 aGu.fn (.node 278 aDZ.fn .nil .nil) .nil) (.node 281 aI7.fn .nil .nil)) (.node 284 aHz.fn (.node 283 aFj.fn .nil .nil) (.node 285 aHE.fn .nil .nil))))) (.node 310 aG3.fn (.node 301 aAF.fn (.node 291 aEs.fn (.node 289 XU.fn (.node 288 aEA.fn (.node 287 aI8.fn .nil .nil) .nil) (.node 290 aDb.fn .nil .nil)) (.node 296 aAb.fn (.node 293 aEy.fn (.node 292 aI6.fn .nil .nil) .nil) (.node 300 aAr.fn .nil .nil))) (.node 306 aFM.fn (.node 304 YH.fn (.node 303 aMv.fn (.node 302 WZ.fn .nil .nil) .nil) (.node 305 aI9.fn .nil .nil)) (.node 308 aF5.fn (.node 307 aHk.fn .nil .nil) (.node 309 aIr.fn .nil .nil)))) (.node 321 aD9.fn (.node 317 aIs.fn (.node 315 aGh.fn (.node 314 US.fn (.node 311 aQD.fn .nil .nil) .nil) (.node 316 aIi.fn .nil .nil)) (.node 319 aKL.fn (.node 318 XH.fn .nil .nil) (.node 320 aH3.fn .nil .nil))) (.node 326 aC3.fn (.node 324 aHA.fn (.node 323 aIX.fn (.node 322 aEl.fn .nil .nil) .nil) (.node 325 aBQ.fn .nil .nil)) (.node 328 aLs.fn (.node 327 aGZ.fn .nil .nil) (.node 329 aIJ.fn .nil .nil))))))))
def Cz:Ctx:=⟨⟨aRC.get,⟨yC aNF,ZK,aUc⟩⟩,aPg.get,aBz,TP⟩
theorem E5:jG Tryz.prog Cz:=aAo (by kernel_rfl) ⟨DN.h,⟨(show qK Tryz.prog 59=some aHc by kernel_rfl),⟨aH7.h,⟨aEq.h,⟨th9.h,⟨th4.h,⟨th3.h,⟨th1.h,⟨⟩,⟨⟩⟩,⟨⟩⟩,⟨th5.h,⟨⟩,⟨⟩⟩⟩,⟨aH6.h,⟨aI4.h,⟨⟩,⟨⟩⟩,⟨aGc.h,⟨⟩,⟨⟩⟩⟩⟩,⟨aGE.h,⟨aHp.h,⟨aFf.h,⟨⟩,⟨⟩⟩,⟨aEV.h,⟨⟩,⟨⟩⟩⟩,⟨aEv.h,⟨aIY.h,⟨⟩,⟨⟩⟩,⟨aIP.h,⟨⟩,⟨⟩⟩⟩⟩⟩,⟨aDe.h,⟨(show qK Tryz.prog 42=some aAd by kernel_rfl),⟨aH0.h,⟨(show qK Tryz.prog 38=some aFA by kernel_rfl),⟨(show qK Tryz.prog 37=some aG1 by kernel_rfl),⟨⟩,⟨⟩⟩,⟨⟩⟩,⟨(show qK Tryz.prog 40=some aEN by kernel_rfl),⟨⟩,⟨⟩⟩⟩,⟨aFq.h,⟨(show qK Tryz.prog 44=some aJf by kernel_rfl),⟨⟩,⟨⟩⟩,⟨aGW.h,⟨⟩,⟨⟩⟩⟩⟩,⟨aG6.h,⟨aFN.h,⟨aGH.h,⟨⟩,⟨⟩⟩,⟨aHQ.h,⟨⟩,⟨⟩⟩⟩,⟨aC8.h,⟨aDq.h,⟨⟩,⟨⟩⟩,⟨aG7.h,⟨⟩,⟨⟩⟩⟩⟩⟩⟩,⟨NO.h,⟨aG2.h,⟨aIT.h,⟨aHI.h,⟨aID.h,⟨MO.h,⟨⟩,⟨⟩⟩,⟨⟩⟩,⟨aGv.h,⟨⟩,⟨⟩⟩⟩,⟨aHC.h,⟨W6.h,⟨⟩,⟨⟩⟩,⟨aIm.h,⟨⟩,⟨⟩⟩⟩⟩,⟨aDi.h,⟨(show qK Tryz.prog 83=some aGL by kernel_rfl),⟨(show qK Tryz.prog 82=some aIv by kernel_rfl),⟨⟩,⟨⟩⟩,⟨aHd.h,⟨⟩,⟨⟩⟩⟩,⟨(show qK Tryz.prog 90=some aHO by kernel_rfl),⟨aDl.h,⟨⟩,⟨⟩⟩,⟨aH4.h,⟨⟩,⟨⟩⟩⟩⟩⟩,⟨SO.h,⟨SF.h,⟨RF.h,⟨aEh.h,⟨⟩,⟨⟩⟩,⟨TJ.h,⟨⟩,⟨⟩⟩⟩,⟨S8.h,⟨S9.h,⟨⟩,⟨⟩⟩,⟨P1.h,⟨⟩,⟨⟩⟩⟩⟩,⟨(show qK Tryz.prog 151=some SX by kernel_rfl),⟨TS.h,⟨QT.h,⟨⟩,⟨⟩⟩,⟨TI.h,⟨⟩,⟨⟩⟩⟩,⟨TD.h,⟨R3.h,⟨⟩,⟨⟩⟩,⟨QX.h,⟨⟩,⟨⟩⟩⟩⟩⟩⟩⟩,⟨SE.h,⟨PR.h,⟨RI.h,⟨O7.h,⟨RO.h,⟨QA.h,⟨T0.h,⟨⟩,⟨⟩⟩,⟨⟩⟩,⟨TQ.h,⟨⟩,⟨⟩⟩⟩,⟨TF.h,⟨QL.h,⟨⟩,⟨⟩⟩,⟨RZ.h,⟨⟩,⟨⟩⟩⟩⟩,⟨RR.h,⟨Q5.h,⟨ST.h,⟨⟩,⟨⟩⟩,⟨SH.h,⟨⟩,⟨⟩⟩⟩,⟨Q9.h,⟨SL.h,⟨⟩,⟨⟩⟩,⟨P7.h,⟨⟩,⟨⟩⟩⟩⟩⟩,⟨QQ.h,⟨QO.h,⟨RQ.h,⟨PQ.h,⟨QN.h,⟨⟩,⟨⟩⟩,⟨⟩⟩,⟨P4.h,⟨⟩,⟨⟩⟩⟩,⟨O1.h,⟨RJ.h,⟨⟩,⟨⟩⟩,⟨TV.h,⟨⟩,⟨⟩⟩⟩⟩,⟨O3.h,⟨RB.h,⟨PG.h,⟨⟩,⟨⟩⟩,⟨RC.h,⟨⟩,⟨⟩⟩⟩,⟨Q2.h,⟨QZ.h,⟨⟩,⟨⟩⟩,⟨QC.h,⟨⟩,⟨⟩⟩⟩⟩⟩⟩,⟨RK.h,⟨RG.h,⟨SP.h,⟨R4.h,⟨UE.h,⟨TB.h,⟨⟩,⟨⟩⟩,⟨⟩⟩,⟨TK.h,⟨⟩,⟨⟩⟩⟩,⟨TO.h,⟨PZ.h,⟨⟩,⟨⟩⟩,⟨R6.h,⟨⟩,⟨⟩⟩⟩⟩,⟨P5.h,⟨R5.h,⟨SU.h,⟨⟩,⟨⟩⟩,⟨RU.h,⟨⟩,⟨⟩⟩⟩,⟨R7.h,⟨T3.h,⟨⟩,⟨⟩⟩,⟨PY.h,⟨⟩,⟨⟩⟩⟩⟩⟩,⟨TZ.h,⟨PE.h,⟨PJ.h,⟨TA.h,⟨⟩,⟨⟩⟩,⟨(show qK Tryz.prog 378=some Q6 by kernel_rfl),⟨⟩,⟨⟩⟩⟩,⟨Q7.h,⟨SQ.h,⟨⟩,⟨⟩⟩,⟨Q4.h,⟨⟩,⟨⟩⟩⟩⟩,⟨SD.h,⟨RX.h,⟨RH.h,⟨⟩,⟨⟩⟩,⟨SA.h,⟨⟩,⟨⟩⟩⟩,⟨S6.h,⟨RV.h,⟨⟩,⟨⟩⟩,⟨(show qK Tryz.prog 438=some SW by kernel_rfl),⟨⟩,⟨⟩⟩⟩⟩⟩⟩⟩⟩ ⟨fk aGf Tryz.func170,⟨fk g85 Tryz.func85,⟨fk g45 Tryz.func45,⟨fk g27 Tryz.func27,⟨fk g14 Tryz.func14,⟨fk g9 Tryz.func9,⟨fk g5 Tryz.func5,⟨fk g4 Tryz.func4,⟨fk g3 Tryz.func3,⟨⟩,⟨⟩⟩,⟨⟩⟩,⟨fk g8 Tryz.func8,⟨⟩,⟨⟩⟩⟩,⟨fk g12 Tryz.func12,⟨fk g11 Tryz.func11,⟨fk g10 Tryz.func10,⟨⟩,⟨⟩⟩,⟨⟩⟩,⟨fk g13 Tryz.func13,⟨⟩,⟨⟩⟩⟩⟩,⟨fk g19 Tryz.func19,⟨fk g17 Tryz.func17,⟨fk g16 Tryz.func16,⟨fk g15 Tryz.func15,⟨⟩,⟨⟩⟩,⟨⟩⟩,⟨fk g18 Tryz.func18,⟨⟩,⟨⟩⟩⟩,⟨fk g25 Tryz.func25,⟨fk g24 Tryz.func24,⟨⟩,⟨⟩⟩,⟨fk g26 Tryz.func26,⟨⟩,⟨⟩⟩⟩⟩⟩,⟨fk g36 Tryz.func36,⟨fk g32 Tryz.func32,⟨fk g30 Tryz.func30,⟨fk g29 Tryz.func29,⟨fk g28 Tryz.func28,⟨⟩,⟨⟩⟩,⟨⟩⟩,⟨fk g31 Tryz.func31,⟨⟩,⟨⟩⟩⟩,⟨fk g34 Tryz.func34,⟨fk g33 Tryz.func33,⟨⟩,⟨⟩⟩,⟨fk g35 Tryz.func35,⟨⟩,⟨⟩⟩⟩⟩,⟨fk g41 Tryz.func41,⟨fk g39 Tryz.func39,⟨fk g38 Tryz.func38,⟨fk g37 Tryz.func37,⟨⟩,⟨⟩⟩,⟨⟩⟩,⟨fk g40 Tryz.func40,⟨⟩,⟨⟩⟩⟩,⟨fk g43 Tryz.func43,⟨fk g42 Tryz.func42,⟨⟩,⟨⟩⟩,⟨fk g44 Tryz.func44,⟨⟩,⟨⟩⟩⟩⟩⟩⟩,⟨fk g67 Tryz.func67,⟨fk g58 Tryz.func58,⟨fk g53 Tryz.func53,⟨fk g50 Tryz.func50,⟨fk g47 Tryz.func47,⟨fk g46 Tryz.func46,⟨⟩,⟨⟩⟩,⟨⟩⟩,⟨fk g52 Tryz.func52,⟨⟩,⟨⟩⟩⟩,⟨fk g56 Tryz.func56,⟨fk g55 Tryz.func55,⟨fk g54 Tryz.func54,⟨⟩,⟨⟩⟩,⟨⟩⟩,⟨fk g57 Tryz.func57,⟨⟩,⟨⟩⟩⟩⟩,⟨fk g63 Tryz.func63,⟨fk g61 Tryz.func61,⟨fk g60 Tryz.func60,⟨fk g59 Tryz.func59,⟨⟩,⟨⟩⟩,⟨⟩⟩,⟨fk g62 Tryz.func62,⟨⟩,⟨⟩⟩⟩,⟨fk g65 Tryz.func65,⟨fk g64 Tryz.func64,⟨⟩,⟨⟩⟩,⟨fk g66 Tryz.func66,⟨⟩,⟨⟩⟩⟩⟩⟩,⟨fk g76 Tryz.func76,⟨fk g72 Tryz.func72,⟨fk g70 Tryz.func70,⟨fk g69 Tryz.func69,⟨fk g68 Tryz.func68,⟨⟩,⟨⟩⟩,⟨⟩⟩,⟨fk g71 Tryz.func71,⟨⟩,⟨⟩⟩⟩,⟨fk g74 Tryz.func74,⟨fk g73 Tryz.func73,⟨⟩,⟨⟩⟩,⟨fk g75 Tryz.func75,⟨⟩,⟨⟩⟩⟩⟩,⟨fk g81 Tryz.func81,⟨fk g79 Tryz.func79,⟨fk g78 Tryz.func78,⟨fk g77 Tryz.func77,⟨⟩,⟨⟩⟩,⟨⟩⟩,⟨fk g80 Tryz.func80,⟨⟩,⟨⟩⟩⟩,⟨fk g83 Tryz.func83,⟨fk g82 Tryz.func82,⟨⟩,⟨⟩⟩,⟨fk g84 Tryz.func84,⟨⟩,⟨⟩⟩⟩⟩⟩⟩⟩,⟨fk aD8 Tryz.func129,⟨fk aEo Tryz.func111,⟨fk aQd Tryz.func102,⟨fk g97 Tryz.func97,⟨fk g95 Tryz.func95,⟨fk g94 Tryz.func94,⟨fk g89 Tryz.func89,⟨⟩,⟨⟩⟩,⟨⟩⟩,⟨fk g96 Tryz.func96,⟨⟩,⟨⟩⟩⟩,⟨fk aA0 Tryz.func100,⟨fk g99 Tryz.func99,⟨fk g98 Tryz.func98,⟨⟩,⟨⟩⟩,⟨⟩⟩,⟨fk MC Tryz.func101,⟨⟩,⟨⟩⟩⟩⟩,⟨fk aGk Tryz.func107,⟨fk aFI Tryz.func105,⟨fk V8 Tryz.func104,⟨fk aL9 Tryz.func103,⟨⟩,⟨⟩⟩,⟨⟩⟩,⟨fk aER Tryz.func106,⟨⟩,⟨⟩⟩⟩,⟨fk aIV Tryz.func109,⟨fk aEP Tryz.func108,⟨⟩,⟨⟩⟩,⟨fk aEt Tryz.func110,⟨⟩,⟨⟩⟩⟩⟩⟩,⟨fk aGo Tryz.func120,⟨fk aGR Tryz.func116,⟨fk aFZ Tryz.func114,⟨fk aDv Tryz.func113,⟨fk aDf Tryz.func112,⟨⟩,⟨⟩⟩,⟨⟩⟩,⟨fk aDQ Tryz.func115,⟨⟩,⟨⟩⟩⟩,⟨fk NC Tryz.func118,⟨fk aIt Tryz.func117,⟨⟩,⟨⟩⟩,⟨fk aEM Tryz.func119,⟨⟩,⟨⟩⟩⟩⟩,⟨fk aEf Tryz.func125,⟨fk aDG Tryz.func123,⟨fk aC9 Tryz.func122,⟨fk aBF Tryz.func121,⟨⟩,⟨⟩⟩,⟨⟩⟩,⟨fk aE6 Tryz.func124,⟨⟩,⟨⟩⟩⟩,⟨fk aEd Tryz.func127,⟨fk aIO Tryz.func126,⟨⟩,⟨⟩⟩,⟨fk aDn Tryz.func128,⟨⟩,⟨⟩⟩⟩⟩⟩⟩,⟨fk aLZ Tryz.func152,⟨fk aLY Tryz.func143,⟨fk aIU Tryz.func134,⟨fk aC5 Tryz.func132,⟨fk aDF Tryz.func131,⟨fk aHK Tryz.func130,⟨⟩,⟨⟩⟩,⟨⟩⟩,⟨fk aDO Tryz.func133,⟨⟩,⟨⟩⟩⟩,⟨fk aIh Tryz.func141,⟨fk aDm Tryz.func140,⟨fk aG5 Tryz.func135,⟨⟩,⟨⟩⟩,⟨⟩⟩,⟨fk aMt Tryz.func142,⟨⟩,⟨⟩⟩⟩⟩,⟨fk aI5 Tryz.func148,⟨fk aMI Tryz.func146,⟨fk aRf Tryz.func145,⟨fk aOQ Tryz.func144,⟨⟩,⟨⟩⟩,⟨⟩⟩,⟨fk aLU Tryz.func147,⟨⟩,⟨⟩⟩⟩,⟨fk aFe Tryz.func150,⟨fk aMT Tryz.func149,⟨⟩,⟨⟩⟩,⟨fk aO0 Tryz.func151,⟨⟩,⟨⟩⟩⟩⟩⟩,⟨fk aGM Tryz.func161,⟨fk aOT Tryz.func157,⟨fk aBf Tryz.func155,⟨fk aQp Tryz.func154,⟨fk aPS Tryz.func153,⟨⟩,⟨⟩⟩,⟨⟩⟩,⟨fk aM9 Tryz.func156,⟨⟩,⟨⟩⟩⟩,⟨fk aFc Tryz.func159,⟨fk aGJ Tryz.func158,⟨⟩,⟨⟩⟩,⟨fk X8 Tryz.func160,⟨⟩,⟨⟩⟩⟩⟩,⟨fk aGS Tryz.func166,⟨fk aCF Tryz.func164,⟨fk aFa Tryz.func163,⟨fk aDp Tryz.func162,⟨⟩,⟨⟩⟩,⟨⟩⟩,⟨fk aGm Tryz.func165,⟨⟩,⟨⟩⟩⟩,⟨fk aF1 Tryz.func168,⟨fk aE1 Tryz.func167,⟨⟩,⟨⟩⟩,⟨fk U9 Tryz.func169,⟨⟩,⟨⟩⟩⟩⟩⟩⟩⟩⟩,⟨fk aCJ Tryz.func249,⟨fk aN1 Tryz.func209,⟨fk aCg Tryz.func189,⟨fk aGO Tryz.func180,⟨fk aQl Tryz.func175,⟨fk IB Tryz.func173,⟨fk aFg Tryz.func172,⟨fk aGB Tryz.func171,⟨⟩,⟨⟩⟩,⟨⟩⟩,⟨fk aRK Tryz.func174,⟨⟩,⟨⟩⟩⟩,⟨fk aFV Tryz.func178,⟨fk aED Tryz.func177,⟨fk aOJ Tryz.func176,⟨⟩,⟨⟩⟩,⟨⟩⟩,⟨fk aHR Tryz.func179,⟨⟩,⟨⟩⟩⟩⟩,⟨fk aDs Tryz.func185,⟨fk aIx Tryz.func183,⟨fk aIq Tryz.func182,⟨fk aDd Tryz.func181,⟨⟩,⟨⟩⟩,⟨⟩⟩,⟨fk aJg Tryz.func184,⟨⟩,⟨⟩⟩⟩,⟨fk aGr Tryz.func187,⟨fk aIz Tryz.func186,⟨⟩,⟨⟩⟩,⟨fk aIu Tryz.func188,⟨⟩,⟨⟩⟩⟩⟩⟩,⟨fk aGb Tryz.func198,⟨fk aD0 Tryz.func194,⟨fk U0 Tryz.func192,⟨fk aGw Tryz.func191,⟨fk aHM Tryz.func190,⟨⟩,⟨⟩⟩,⟨⟩⟩,⟨fk aAe Tryz.func193,⟨⟩,⟨⟩⟩⟩,⟨fk aIL Tryz.func196,⟨fk Y4 Tryz.func195,⟨⟩,⟨⟩⟩,⟨fk aGF Tryz.func197,⟨⟩,⟨⟩⟩⟩⟩,⟨fk aBI Tryz.func203,⟨fk aGz Tryz.func201,⟨fk aIj Tryz.func200,⟨fk aHf Tryz.func199,⟨⟩,⟨⟩⟩,⟨⟩⟩,⟨fk aHU Tryz.func202,⟨⟩,⟨⟩⟩⟩,⟨fk aJe Tryz.func205,⟨fk aBq Tryz.func204,⟨⟩,⟨⟩⟩,⟨fk X4 Tryz.func206,⟨⟩,⟨⟩⟩⟩⟩⟩⟩,⟨fk aDz Tryz.func229,⟨fk aLA Tryz.func219,⟨fk W7 Tryz.func214,⟨fk ZP Tryz.func212,⟨fk aQG Tryz.func211,⟨fk aNC Tryz.func210,⟨⟩,⟨⟩⟩,⟨⟩⟩,⟨fk KI Tryz.func213,⟨⟩,⟨⟩⟩⟩,⟨fk aFE Tryz.func217,⟨fk aDI Tryz.func216,⟨fk XI Tryz.func215,⟨⟩,⟨⟩⟩,⟨⟩⟩,⟨fk aCG Tryz.func218,⟨⟩,⟨⟩⟩⟩⟩,⟨fk aQg Tryz.func225,⟨fk aGI Tryz.func222,⟨fk aJj Tryz.func221,⟨fk aIK Tryz.func220,⟨⟩,⟨⟩⟩,⟨⟩⟩,⟨fk aFQ Tryz.func224,⟨⟩,⟨⟩⟩⟩,⟨fk aJa Tryz.func227,⟨fk aF2 Tryz.func226,⟨⟩,⟨⟩⟩,⟨fk aDK Tryz.func228,⟨⟩,⟨⟩⟩⟩⟩⟩,⟨fk aGd Tryz.func238,⟨fk aH5 Tryz.func234,⟨fk aHe Tryz.func232,⟨fk aF0 Tryz.func231,⟨fk aI0 Tryz.func230,⟨⟩,⟨⟩⟩,⟨⟩⟩,⟨fk aHZ Tryz.func233,⟨⟩,⟨⟩⟩⟩,⟨fk aD1 Tryz.func236,⟨fk aGA Tryz.func235,⟨⟩,⟨⟩⟩,⟨fk aEw Tryz.func237,⟨⟩,⟨⟩⟩⟩⟩,⟨fk aHX Tryz.func243,⟨fk aIw Tryz.func241,⟨fk aHS Tryz.func240,⟨fk aES Tryz.func239,⟨⟩,⟨⟩⟩,⟨⟩⟩,⟨fk aEI Tryz.func242,⟨⟩,⟨⟩⟩⟩,⟨fk aHu Tryz.func245,⟨fk aH1 Tryz.func244,⟨⟩,⟨⟩⟩,⟨fk aOK Tryz.func247,⟨⟩,⟨⟩⟩⟩⟩⟩⟩⟩,⟨fk aFT Tryz.func286,⟨fk aDP Tryz.func268,⟨fk aGX Tryz.func259,⟨fk aDB Tryz.func254,⟨fk aOd Tryz.func252,⟨fk aEZ Tryz.func251,⟨fk ZU Tryz.func250,⟨⟩,⟨⟩⟩,⟨⟩⟩,⟨fk aEW Tryz.func253,⟨⟩,⟨⟩⟩⟩,⟨fk aF3 Tryz.func257,⟨fk aGp Tryz.func256,⟨fk aBd Tryz.func255,⟨⟩,⟨⟩⟩,⟨⟩⟩,⟨fk aGP Tryz.func258,⟨⟩,⟨⟩⟩⟩⟩,⟨fk aF4 Tryz.func264,⟨fk aFr Tryz.func262,⟨fk aFW Tryz.func261,⟨fk aE8 Tryz.func260,⟨⟩,⟨⟩⟩,⟨⟩⟩,⟨fk aHb Tryz.func263,⟨⟩,⟨⟩⟩⟩,⟨fk aGD Tryz.func266,⟨fk aIS Tryz.func265,⟨⟩,⟨⟩⟩,⟨fk aLN Tryz.func267,⟨⟩,⟨⟩⟩⟩⟩⟩,⟨fk aFB Tryz.func277,⟨fk aNm Tryz.func273,⟨fk aHg Tryz.func271,⟨fk aNU Tryz.func270,⟨fk aO6 Tryz.func269,⟨⟩,⟨⟩⟩,⟨⟩⟩,⟨fk aGV Tryz.func272,⟨⟩,⟨⟩⟩⟩,⟨fk aFx Tryz.func275,⟨fk aFn Tryz.func274,⟨⟩,⟨⟩⟩,⟨fk aIk Tryz.func276,⟨⟩,⟨⟩⟩⟩⟩,⟨fk aHV Tryz.func282,⟨fk aD5 Tryz.func280,⟨fk aGu Tryz.func279,⟨fk aDZ Tryz.func278,⟨⟩,⟨⟩⟩,⟨⟩⟩,⟨fk aI7 Tryz.func281,⟨⟩,⟨⟩⟩⟩,⟨fk aHz Tryz.func284,⟨fk aFj Tryz.func283,⟨⟩,⟨⟩⟩,⟨fk aHE Tryz.func285,⟨⟩,⟨⟩⟩⟩⟩⟩⟩,⟨fk aG3 Tryz.func310,⟨fk aAF Tryz.func301,⟨fk aEs Tryz.func291,⟨fk XU Tryz.func289,⟨fk aEA Tryz.func288,⟨fk aI8 Tryz.func287,⟨⟩,⟨⟩⟩,⟨⟩⟩,⟨fk aDb Tryz.func290,⟨⟩,⟨⟩⟩⟩,⟨fk aAb Tryz.func296,⟨fk aEy Tryz.func293,⟨fk aI6 Tryz.func292,⟨⟩,⟨⟩⟩,⟨⟩⟩,⟨fk aAr Tryz.func300,⟨⟩,⟨⟩⟩⟩⟩,⟨fk aFM Tryz.func306,⟨fk YH Tryz.func304,⟨fk aMv Tryz.func303,⟨fk WZ Tryz.func302,⟨⟩,⟨⟩⟩,⟨⟩⟩,⟨fk aI9 Tryz.func305,⟨⟩,⟨⟩⟩⟩,⟨fk aF5 Tryz.func308,⟨fk aHk Tryz.func307,⟨⟩,⟨⟩⟩,⟨fk aIr Tryz.func309,⟨⟩,⟨⟩⟩⟩⟩⟩,⟨fk aD9 Tryz.func321,⟨fk aIs Tryz.func317,⟨fk aGh Tryz.func315,⟨fk US Tryz.func314,⟨fk aQD Tryz.func311,⟨⟩,⟨⟩⟩,⟨⟩⟩,⟨fk aIi Tryz.func316,⟨⟩,⟨⟩⟩⟩,⟨fk aKL Tryz.func319,⟨fk XH Tryz.func318,⟨⟩,⟨⟩⟩,⟨fk aH3 Tryz.func320,⟨⟩,⟨⟩⟩⟩⟩,⟨fk aC3 Tryz.func326,⟨fk aHA Tryz.func324,⟨fk aIX Tryz.func323,⟨fk aEl Tryz.func322,⟨⟩,⟨⟩⟩,⟨⟩⟩,⟨fk aBQ Tryz.func325,⟨⟩,⟨⟩⟩⟩,⟨fk aLs Tryz.func328,⟨fk aGZ Tryz.func327,⟨⟩,⟨⟩⟩,⟨fk aIJ Tryz.func329,⟨⟩,⟨⟩⟩⟩⟩⟩⟩⟩⟩⟩ aCH (aCT)
theorem ZE:Cz.B 77=some g77.fn:=by rfl
theorem aBe:Cz.B 79=some g79.fn:=by rfl
theorem aJz:Cz.T 60=some MO.t:=by rfl
theorem aWp:Cz.T 73=some W6.t:=by rfl
theorem aJY:Cz.T 93=some NO.t:=by rfl
theorem aNz:Cz.T 178=some DN.t:=by rfl
def tE(f:FuncId):Bool:=Nat.beq f 77||Nat.beq f 79
def AZ(f:FuncId)(zs:List A):Option A:=bif tE f then(match zs with|[.sl 0 []]=>some (.sl 0 [])|_=>none)else aBz f zs
theorem OF(f:FuncId)(hf:tE f=true)(c:Nat):EvQ Cz f [.v (.slice none 0 c)] (.sl 0 []):=by simp only[tE,Bool.or_eq_true]at hf;rcases hf with h|h;{obtain rfl:=Nat.eq_of_beq_eq_true h;refine evF ZE ?_;simp(disch:=omega)only[go_sem,simprocAttr,aJY,NO,t9,yG,g77]};{obtain rfl:=Nat.eq_of_beq_eq_true h;refine evF aBe ?_;simp(disch:=omega)only[go_sem,simprocAttr,aJz,MO,t9,yG,g79]}
theorem LW(f:FuncId)(hf:tE f=true)(a:Addr)(c:Nat):EvQ Cz f [.v (.slice (some a) 0 c)] (.sl 0 []):=by simp only[tE,Bool.or_eq_true]at hf;rcases hf with h|h;{obtain rfl:=Nat.eq_of_beq_eq_true h;refine evF ZE ?_;simp(disch:=omega)only[go_sem,simprocAttr,aJY,NO,aNz,DN,t9,yG,g77]};{obtain rfl:=Nat.eq_of_beq_eq_true h;refine evF aBe ?_;simp(disch:=omega)only[go_sem,simprocAttr,aJz,MO,aWp,W6,t9,yG,g79]}
theorem Z3:QOk Cz.T Tryz.prog AZ:=by intro f zs r h;unfold AZ at h;cases hb:tE f with|false=>rw[hb,cond_false]at h;exact E5.ext f zs r h|true=>rw[hb,cond_true]at h;split at h;{simp only[Option.some.injEq]at h;subst h;(have hent:xU Tryz.prog f:=by simp only[tE,Bool.or_eq_true]at hb;rcases hb with h|h;{obtain rfl:=Nat.eq_of_beq_eq_true h;exact E5.enters ZE};{obtain rfl:=Nat.eq_of_beq_eq_true h;exact E5.enters aBe});refine .inr ⟨hent,fun own w ys ho hgl hr=>?_⟩;(obtain⟨y,ys',rfl,hy,hn⟩:∃y ys',ys=y::ys'/\R [] own w (.sl 0 []) y/\RL [] own w [] ys':=by rw[RL]at hr;obtain⟨y,ys',e,h1,h2⟩:=hr;exact⟨y,ys',e,h1,h2⟩);(have key:∀a c,y=.slice a 0 c->EvQ Cz f [.v (.slice a 0 c)] (.sl 0 []):=fun a c _=>by cases a with|none=>exact OF f hb c|some a=>exact LW f hb a c);(have fin:∀a c,y=.slice a 0 c->Go.Calls Tryz.prog f (y::ys').toArray w fun e w'=>∃v,e=.returned v/\Grow w w'/\R [] own w' (.sl 0 []) v:=fun a c e=>by subst e;obtain⟨N,hN⟩:=key a c rfl;rcases(dU E5 N).1 f _ _ hN with h|⟨-,h⟩;{obtain⟨v,h1,-⟩:=h [] own w _ (RL.cons (by rw[R]) hn);rw[hent]at h1;simp at h1};{exact h own w _ ho hgl (RL.cons (by rw[R]) hn)});rw[R]at hy;rcases hy with⟨-,-,a,c,rfl⟩|⟨g,off,cap,xs,rfl,h0,-⟩;{exact fin _ _ rfl};{exact fin _ _ rfl}};{cases h}
def Cy:Ctx:=⟨Cz.T,Cz.B,AZ,Cz.XO⟩
theorem tQ:jG Tryz.prog Cy:=⟨E5.mixed,E5.types,E5.loops,E5.fns,Z3,E5.extO⟩
noncomputable def aAj(f:FuncId):Option (List A->aF->Option (A×aF)):=bif Nat.beq f 223 then some (rW Cy)else TP f
theorem aBt:∀f g zs H x H',aAj f=some g->g zs H=some (x,H')->oQ Cy.T Tryz.prog f zs H x H':=by intro f g zs H x H' hg h;unfold aAj at hg;cases h1:Nat.beq f 223 with|true=>obtain rfl:=Nat.eq_of_beq_eq_true h1;rw[h1,cond_true]at hg;obtain rfl:=Option.some.inj hg;exact UV tQ h|false=>rw[h1,cond_false]at hg;exact tQ.extO f g zs H x H' hg h
noncomputable def Cx:Ctx:=⟨Cy.T,Cy.B,Cy.X,aAj⟩
theorem sF:jG Tryz.prog Cx:=⟨tQ.mixed,tQ.types,tQ.loops,tQ.fns,tQ.ext,aBt⟩
theorem aPi:Cy.B 189=some aCg.fn:=by rfl
theorem aWZ:oB Cy 189=true:=by rfl
theorem aRs:Cy.B 191=some aGw.fn:=by rfl
theorem aXz:oB Cy 191=true:=by rfl
theorem aW3:Cx.T 1=some th1.t:=by rfl
theorem aXt:Cx.T 3=some th3.t:=by rfl
theorem aW6:Cx.T 4=some th4.t:=by rfl
theorem aXR:Cx.T 5=some th5.t:=by rfl
theorem aXg:Cx.T 9=some th9.t:=by rfl
theorem aUC:Cx.T 20=some aI4.t:=by rfl
theorem aWJ:Cx.T 21=some aH6.t:=by rfl
theorem aTc:Cx.T 22=some aGc.t:=by rfl
theorem aU9:Cx.T 23=some aEq.t:=by rfl
theorem aVy:Cx.T 24=some aFf.t:=by rfl
theorem aUx:Cx.T 25=some aHp.t:=by rfl
theorem aS3:Cx.T 27=some aEV.t:=by rfl
theorem aR5:Cx.T 29=some aGE.t:=by rfl
theorem aUH:Cx.T 31=some aIY.t:=by rfl
theorem aS7:Cx.T 33=some aEv.t:=by rfl
theorem aRZ:Cx.T 34=some aIP.t:=by rfl
theorem aWy:Cx.T 36=some aH7.t:=by rfl
theorem aUV:Cx.T 37=some aG1:=by rfl
theorem aR3:Cx.T 38=some aFA:=by rfl
theorem aSr:Cx.T 39=some aH0.t:=by rfl
theorem aS2:Cx.T 40=some aEN:=by rfl
theorem aT3:Cx.T 42=some aAd:=by rfl
theorem aUu:Cx.T 44=some aJf:=by rfl
theorem aVF:Cx.T 45=some aFq.t:=by rfl
theorem aR6:Cx.T 46=some aGW.t:=by rfl
theorem aVV:Cx.T 49=some aDe.t:=by rfl
theorem aUh:Cx.T 50=some aGH.t:=by rfl
theorem aVo:Cx.T 51=some aFN.t:=by rfl
theorem aV2:Cx.T 52=some aHQ.t:=by rfl
theorem aVK:Cx.T 54=some aG6.t:=by rfl
theorem aUr:Cx.T 55=some aDq.t:=by rfl
theorem aVv:Cx.T 56=some aC8.t:=by rfl
theorem aWF:Cx.T 58=some aG7.t:=by rfl
theorem aWs:Cx.T 59=some aHc:=by rfl
theorem aV9:Cx.T 60=some MO.t:=by rfl
theorem aTJ:Cx.T 62=some aID.t:=by rfl
theorem aVg:Cx.T 63=some aHI.t:=by rfl
theorem aUp:Cx.T 66=some aGv.t:=by rfl
theorem aUo:Cx.T 69=some aIT.t:=by rfl
theorem aVa:Cx.T 73=some W6.t:=by rfl
theorem aVt:Cx.T 75=some aHC.t:=by rfl
theorem aSy:Cx.T 79=some aIm.t:=by rfl
theorem aRP:Cx.T 81=some aG2.t:=by rfl
theorem aR8:Cx.T 82=some aIv:=by rfl
theorem aR4:Cx.T 83=some aGL:=by rfl
theorem aSA:Cx.T 85=some aHd.t:=by rfl
theorem aTI:Cx.T 86=some aDi.t:=by rfl
theorem aUN:Cx.T 88=some aDl.t:=by rfl
theorem aT8:Cx.T 90=some aHO:=by rfl
theorem aRN:Cx.T 92=some aH4.t:=by rfl
theorem aSg:Cx.T 93=some NO.t:=by rfl
theorem aUz:Cx.T 95=some aEh.t:=by rfl
theorem aPD:Cx.T 104=some RF.t:=by rfl
theorem aQj:Cx.T 107=some TJ.t:=by rfl
theorem aRJ:Cx.T 109=some SF.t:=by rfl
theorem aLj:Cx.T 111=some S9.t:=by rfl
theorem aL7:Cx.T 122=some S8.t:=by rfl
theorem aQc:Cx.T 128=some P1.t:=by rfl
theorem aK9:Cx.T 130=some SO.t:=by rfl
theorem aN3:Cx.T 132=some QT.t:=by rfl
theorem aQP:Cx.T 136=some TS.t:=by rfl
theorem aKv:Cx.T 149=some TI.t:=by rfl
theorem aPH:Cx.T 151=some SX:=by rfl
theorem aP0:Cx.T 157=some R3.t:=by rfl
theorem aKy:Cx.T 159=some TD.t:=by rfl
theorem aMB:Cx.T 171=some QX.t:=by rfl
theorem aQy:Cx.T 178=some DN.t:=by rfl
theorem aO3:Cx.T 181=some T0.t:=by rfl
theorem aLa:Cx.T 182=some QA.t:=by rfl
theorem aKx:Cx.T 186=some RO.t:=by rfl
theorem aMp:Cx.T 187=some TQ.t:=by rfl
theorem aLq:Cx.T 202=some O7.t:=by rfl
theorem aQA:Cx.T 203=some QL.t:=by rfl
theorem aMS:Cx.T 210=some TF.t:=by rfl
theorem aPK:Cx.T 213=some RZ.t:=by rfl
theorem aRD:Cx.T 216=some RI.t:=by rfl
theorem aOP:Cx.T 218=some ST.t:=by rfl
theorem aMW:Cx.T 220=some Q5.t:=by rfl
theorem aMF:Cx.T 224=some SH.t:=by rfl
theorem aPQ:Cx.T 226=some RR.t:=by rfl
theorem aNi:Cx.T 228=some SL.t:=by rfl
theorem aLW:Cx.T 230=some Q9.t:=by rfl
theorem aP9:Cx.T 233=some P7.t:=by rfl
theorem aQk:Cx.T 267=some PR.t:=by rfl
theorem aLe:Cx.T 268=some QN.t:=by rfl
theorem aMh:Cx.T 270=some PQ.t:=by rfl
theorem aOi:Cx.T 272=some RQ.t:=by rfl
theorem aKA:Cx.T 277=some P4.t:=by rfl
theorem aKk:Cx.T 278=some QO.t:=by rfl
theorem aOR:Cx.T 292=some RJ.t:=by rfl
theorem aKj:Cx.T 293=some O1.t:=by rfl
theorem aOb:Cx.T 302=some TV.t:=by rfl
theorem aQh:Cx.T 303=some QQ.t:=by rfl
theorem aRv:Cx.T 305=some PG.t:=by rfl
theorem aOv:Cx.T 306=some RB.t:=by rfl
theorem aOW:Cx.T 316=some RC.t:=by rfl
theorem aQV:Cx.T 323=some O3.t:=by rfl
theorem aOZ:Cx.T 329=some QZ.t:=by rfl
theorem aPn:Cx.T 331=some Q2.t:=by rfl
theorem aOu:Cx.T 337=some QC.t:=by rfl
theorem aLt:Cx.T 340=some SE.t:=by rfl
theorem aQs:Cx.T 342=some TB.t:=by rfl
theorem aQa:Cx.T 344=some UE.t:=by rfl
theorem aLG:Cx.T 347=some R4.t:=by rfl
theorem aK8:Cx.T 349=some TK.t:=by rfl
theorem aM6:Cx.T 352=some SP.t:=by rfl
theorem aOG:Cx.T 353=some PZ.t:=by rfl
theorem aQt:Cx.T 356=some TO.t:=by rfl
theorem aNJ:Cx.T 357=some R6.t:=by rfl
theorem aNB:Cx.T 358=some RG.t:=by rfl
theorem aN9:Cx.T 360=some SU.t:=by rfl
theorem aOL:Cx.T 362=some R5.t:=by rfl
theorem aPf:Cx.T 364=some RU.t:=by rfl
theorem aRI:Cx.T 368=some P5.t:=by rfl
theorem aPe:Cx.T 369=some T3.t:=by rfl
theorem aNV:Cx.T 371=some R7.t:=by rfl
theorem aNW:Cx.T 374=some PY.t:=by rfl
theorem aQK:Cx.T 375=some RK.t:=by rfl
theorem aKH:Cx.T 376=some TA.t:=by rfl
theorem aMC:Cx.T 377=some PJ.t:=by rfl
theorem aKr:Cx.T 378=some Q6:=by rfl
theorem aQE:Cx.T 383=some PE.t:=by rfl
theorem aQF:Cx.T 385=some SQ.t:=by rfl
theorem aRe:Cx.T 390=some Q7.t:=by rfl
theorem aQQ:Cx.T 394=some Q4.t:=by rfl
theorem aRr:Cx.T 403=some TZ.t:=by rfl
theorem aPt:Cx.T 406=some RH.t:=by rfl
theorem aNt:Cx.T 411=some RX.t:=by rfl
theorem aNN:Cx.T 417=some SA.t:=by rfl
theorem aRE:Cx.T 419=some SD.t:=by rfl
theorem aQR:Cx.T 422=some RV.t:=by rfl
theorem aOy:Cx.T 435=some S6.t:=by rfl
theorem aOf:Cx.T 438=some SW:=by rfl
abbrev XB(f:FuncId)(m:MFn):Prop:=Cx.B f=some m
theorem aLI:XB 3 g3.fn:=by rfl
theorem aNd:XB 4 g4.fn:=by rfl
theorem aQO:XB 5 g5.fn:=by rfl
theorem aXB:XB 9 g9.fn:=by rfl
theorem aVA:XB 10 g10.fn:=by rfl
theorem aUa:XB 11 g11.fn:=by rfl
theorem aTv:XB 12 g12.fn:=by rfl
theorem aV6:XB 13 g13.fn:=by rfl
theorem aSp:XB 14 g14.fn:=by rfl
theorem aUS:XB 15 g15.fn:=by rfl
theorem aTB:XB 16 g16.fn:=by rfl
theorem aUs:XB 17 g17.fn:=by rfl
theorem aUm:XB 18 g18.fn:=by rfl
theorem aSL:XB 19 g19.fn:=by rfl
theorem aWf:XB 28 g28.fn:=by rfl
theorem aR2:XB 29 g29.fn:=by rfl
theorem aUy:XB 30 g30.fn:=by rfl
theorem aVN:XB 31 g31.fn:=by rfl
theorem aSG:XB 32 g32.fn:=by rfl
theorem aT5:XB 33 g33.fn:=by rfl
theorem aUZ:XB 34 g34.fn:=by rfl
theorem aTs:XB 35 g35.fn:=by rfl
theorem aSn:XB 36 g36.fn:=by rfl
theorem aSR:XB 37 g37.fn:=by rfl
theorem aUg:XB 38 g38.fn:=by rfl
theorem DJ:XB 39 g39.fn:=by rfl
theorem aRS:XB 40 g40.fn:=by rfl
theorem aJn:XB 41 g41.fn:=by rfl
theorem aSO:XB 42 g42.fn:=by rfl
theorem aS0:XB 43 g43.fn:=by rfl
theorem I0:XB 44 g44.fn:=by rfl
theorem aTn:XB 45 g45.fn:=by rfl
theorem aJq:XB 46 g46.fn:=by rfl
theorem aTq:XB 47 g47.fn:=by rfl
theorem aWj:XB 50 g50.fn:=by rfl
theorem aVe:XB 56 g56.fn:=by rfl
theorem aUD:XB 57 g57.fn:=by rfl
theorem aVH:XB 59 g59.fn:=by rfl
theorem aS5:XB 60 g60.fn:=by rfl
theorem aU8:XB 61 g61.fn:=by rfl
theorem aRW:XB 62 g62.fn:=by rfl
theorem aV5:XB 63 g63.fn:=by rfl
theorem aWB:XB 64 g64.fn:=by rfl
theorem aTf:XB 65 g65.fn:=by rfl
theorem aTL:XB 66 g66.fn:=by rfl
theorem aTD:XB 67 g67.fn:=by rfl
theorem aJ4:XB 68 g68.fn:=by rfl
theorem aWG:XB 69 g69.fn:=by rfl
theorem aSu:XB 70 g70.fn:=by rfl
theorem KD:XB 71 g71.fn:=by rfl
theorem aTe:XB 72 g72.fn:=by rfl
theorem aRQ:XB 73 g73.fn:=by rfl
theorem aJD:XB 74 g74.fn:=by rfl
theorem aWK:XB 75 g75.fn:=by rfl
theorem aTY:XB 76 g76.fn:=by rfl
theorem aVk:XB 77 g77.fn:=by rfl
theorem aWE:XB 78 g78.fn:=by rfl
theorem aVr:XB 79 g79.fn:=by rfl
theorem KU:XB 80 g80.fn:=by rfl
theorem aVp:XB 81 g81.fn:=by rfl
theorem aJO:XB 82 g82.fn:=by rfl
theorem aVl:XB 83 g83.fn:=by rfl
theorem aSV:XB 84 g84.fn:=by rfl
theorem aTr:XB 85 g85.fn:=by rfl
theorem aST:XB 89 g89.fn:=by rfl
theorem aOs:XB 100 aA0.fn:=by rfl
theorem aNv:XB 101 MC.fn:=by rfl
theorem aNK:XB 104 V8.fn:=by rfl
theorem aNY:XB 105 aFI.fn:=by rfl
theorem aPR:XB 106 aER.fn:=by rfl
theorem aPA:XB 107 aGk.fn:=by rfl
theorem D9:XB 108 aEP.fn:=by rfl
theorem aQN:XB 109 aIV.fn:=by rfl
theorem aKO:XB 110 aEt.fn:=by rfl
theorem aL8:XB 111 aEo.fn:=by rfl
theorem aLf:XB 112 aDf.fn:=by rfl
theorem aQY:XB 113 aDv.fn:=by rfl
theorem aC7:XB 114 aFZ.fn:=by rfl
theorem aPX:XB 115 aDQ.fn:=by rfl
theorem aM4:XB 116 aGR.fn:=by rfl
theorem aQn:XB 117 aIt.fn:=by rfl
theorem aOj:XB 118 NC.fn:=by rfl
theorem ZW:XB 119 aEM.fn:=by rfl
theorem aRu:XB 120 aGo.fn:=by rfl
theorem aP6:XB 121 aBF.fn:=by rfl
theorem aK7:XB 122 aC9.fn:=by rfl
theorem aO8:XB 123 aDG.fn:=by rfl
theorem aKN:XB 124 aE6.fn:=by rfl
theorem aNe:XB 125 aEf.fn:=by rfl
theorem aK5:XB 126 aIO.fn:=by rfl
theorem aPw:XB 127 aEd.fn:=by rfl
theorem aRq:XB 128 aDn.fn:=by rfl
theorem aLv:XB 129 aD8.fn:=by rfl
theorem aNk:XB 130 aHK.fn:=by rfl
theorem aPJ:XB 131 aDF.fn:=by rfl
theorem aBp:XB 132 aC5.fn:=by rfl
theorem aLy:XB 133 aDO.fn:=by rfl
theorem OK:XB 134 aIU.fn:=by rfl
theorem ON:XB 135 aG5.fn:=by rfl
theorem aPB:XB 140 aDm.fn:=by rfl
theorem aP1:XB 141 aIh.fn:=by rfl
theorem aK1:XB 148 aI5.fn:=by rfl
theorem aLg:XB 150 aFe.fn:=by rfl
theorem aLV:XB 155 aBf.fn:=by rfl
theorem aMZ:XB 158 aGJ.fn:=by rfl
theorem aM3:XB 159 aFc.fn:=by rfl
theorem aAp:XB 160 X8.fn:=by rfl
theorem aO4:XB 161 aGM.fn:=by rfl
theorem aQU:XB 162 aDp.fn:=by rfl
theorem aRk:XB 163 aFa.fn:=by rfl
theorem aQH:XB 164 aCF.fn:=by rfl
theorem aOt:XB 165 aGm.fn:=by rfl
theorem aKq:XB 166 aGS.fn:=by rfl
theorem aQ2:XB 167 aE1.fn:=by rfl
theorem aKl:XB 168 aF1.fn:=by rfl
theorem aMO:XB 169 U9.fn:=by rfl
theorem aOp:XB 170 aGf.fn:=by rfl
theorem aPo:XB 171 aGB.fn:=by rfl
theorem aQb:XB 172 aFg.fn:=by rfl
theorem aQz:XB 173 IB.fn:=by rfl
theorem fO:XB 177 aED.fn:=by rfl
theorem aBD:XB 178 aFV.fn:=by rfl
theorem ZB:XB 179 aHR.fn:=by rfl
theorem aRo:XB 180 aGO.fn:=by rfl
theorem aOz:XB 181 aDd.fn:=by rfl
theorem OJ:XB 182 aIq.fn:=by rfl
theorem kM:XB 183 aIx.fn:=by rfl
theorem aOM:XB 184 aJg.fn:=by rfl
theorem aN8:XB 185 aDs.fn:=by rfl
theorem aKu:XB 186 aIz.fn:=by rfl
theorem aLQ:XB 187 aGr.fn:=by rfl
theorem aKB:XB 188 aIu.fn:=by rfl
theorem aKX:XB 189 aCg.fn:=by rfl
theorem aKt:XB 190 aHM.fn:=by rfl
theorem aMG:XB 192 U0.fn:=by rfl
theorem aQX:XB 193 aAe.fn:=by rfl
theorem mD:XB 194 aD0.fn:=by rfl
theorem aL3:XB 195 Y4.fn:=by rfl
theorem qQ:XB 196 aIL.fn:=by rfl
theorem AF:XB 197 aGF.fn:=by rfl
theorem aLz:XB 198 aGb.fn:=by rfl
theorem aMQ:XB 199 aHf.fn:=by rfl
theorem aQe:XB 200 aIj.fn:=by rfl
theorem aK0:XB 201 aGz.fn:=by rfl
theorem aQm:XB 202 aHU.fn:=by rfl
theorem aLm:XB 203 aBI.fn:=by rfl
theorem aL0:XB 204 aBq.fn:=by rfl
theorem aMx:XB 205 aJe.fn:=by rfl
theorem LP:XB 206 X4.fn:=by rfl
theorem aQ8:XB 212 ZP.fn:=by rfl
theorem aOA:XB 213 KI.fn:=by rfl
theorem aPb:XB 214 W7.fn:=by rfl
theorem aOY:XB 215 XI.fn:=by rfl
theorem aOI:XB 216 aDI.fn:=by rfl
theorem aPL:XB 217 aFE.fn:=by rfl
theorem MK:XB 218 aCG.fn:=by rfl
theorem wJ:XB 220 aIK.fn:=by rfl
theorem aRa:XB 221 aJj.fn:=by rfl
theorem aRw:XB 222 aGI.fn:=by rfl
theorem aRB:XB 224 aFQ.fn:=by rfl
theorem aMb:XB 226 aF2.fn:=by rfl
theorem xF:XB 227 aJa.fn:=by rfl
theorem aN5:XB 228 aDK.fn:=by rfl
theorem aLo:XB 229 aDz.fn:=by rfl
theorem aLr:XB 230 aI0.fn:=by rfl
theorem aKG:XB 231 aF0.fn:=by rfl
theorem aMy:XB 232 aHe.fn:=by rfl
theorem aPG:XB 233 aHZ.fn:=by rfl
theorem aPE:XB 234 aH5.fn:=by rfl
theorem aMP:XB 235 aGA.fn:=by rfl
theorem aK6:XB 236 aD1.fn:=by rfl
theorem aLK:XB 237 aEw.fn:=by rfl
theorem aPF:XB 238 aGd.fn:=by rfl
theorem aKQ:XB 239 aES.fn:=by rfl
theorem aN2:XB 240 aHS.fn:=by rfl
theorem aOH:XB 241 aIw.fn:=by rfl
theorem aPC:XB 242 aEI.fn:=by rfl
theorem aMm:XB 243 aHX.fn:=by rfl
theorem aOq:XB 244 aH1.fn:=by rfl
theorem aOk:XB 245 aHu.fn:=by rfl
theorem aNl:XB 249 aCJ.fn:=by rfl
theorem aMY:XB 250 ZU.fn:=by rfl
theorem aLd:XB 251 aEZ.fn:=by rfl
theorem aPa:XB 253 aEW.fn:=by rfl
theorem aNg:XB 254 aDB.fn:=by rfl
theorem aMN:XB 255 aBd.fn:=by rfl
theorem aPU:XB 256 aGp.fn:=by rfl
theorem aKS:XB 257 aF3.fn:=by rfl
theorem aMH:XB 258 aGP.fn:=by rfl
theorem aPm:XB 259 aGX.fn:=by rfl
theorem aRp:XB 260 aE8.fn:=by rfl
theorem NM:XB 261 aFW.fn:=by rfl
theorem aKM:XB 262 aFr.fn:=by rfl
theorem aMd:XB 263 aHb.fn:=by rfl
theorem aNH:XB 264 aF4.fn:=by rfl
theorem aNb:XB 265 aIS.fn:=by rfl
theorem aRc:XB 266 aGD.fn:=by rfl
theorem aMi:XB 268 aDP.fn:=by rfl
theorem aLO:XB 271 aHg.fn:=by rfl
theorem aRA:XB 272 aGV.fn:=by rfl
theorem aMM:XB 274 aFn.fn:=by rfl
theorem zR:XB 275 aFx.fn:=by rfl
theorem aLh:XB 276 aIk.fn:=by rfl
theorem aRz:XB 277 aFB.fn:=by rfl
theorem aNX:XB 278 aDZ.fn:=by rfl
theorem aQ6:XB 279 aGu.fn:=by rfl
theorem aOx:XB 280 aD5.fn:=by rfl
theorem aMX:XB 281 aI7.fn:=by rfl
theorem aOe:XB 282 aHV.fn:=by rfl
theorem aNf:XB 283 aFj.fn:=by rfl
theorem aMz:XB 284 aHz.fn:=by rfl
theorem aRb:XB 285 aHE.fn:=by rfl
theorem aNG:XB 286 aFT.fn:=by rfl
theorem aQZ:XB 287 aI8.fn:=by rfl
theorem aPd:XB 288 aEA.fn:=by rfl
theorem aLn:XB 289 XU.fn:=by rfl
theorem aMo:XB 290 aDb.fn:=by rfl
theorem Z5:XB 291 aEs.fn:=by rfl
theorem aMU:XB 292 aI6.fn:=by rfl
theorem aQ9:XB 293 aEy.fn:=by rfl
theorem aKs:XB 296 aAb.fn:=by rfl
theorem aQ1:XB 300 aAr.fn:=by rfl
theorem aQI:XB 301 aAF.fn:=by rfl
theorem aQi:XB 302 WZ.fn:=by rfl
theorem aMu:XB 304 YH.fn:=by rfl
theorem ZS:XB 305 aI9.fn:=by rfl
theorem A4:XB 306 aFM.fn:=by rfl
theorem aP3:XB 307 aHk.fn:=by rfl
theorem aRx:XB 308 aF5.fn:=by rfl
theorem aML:XB 309 aIr.fn:=by rfl
theorem aPW:XB 310 aG3.fn:=by rfl
theorem aQr:XB 314 US.fn:=by rfl
theorem aKw:XB 315 aGh.fn:=by rfl
theorem aOU:XB 316 aIi.fn:=by rfl
theorem X7:XB 317 aIs.fn:=by rfl
theorem aRm:XB 318 XH.fn:=by rfl
theorem aPq:XB 320 aH3.fn:=by rfl
theorem aQo:XB 321 aD9.fn:=by rfl
theorem aKU:XB 322 aEl.fn:=by rfl
theorem aN6:XB 323 aIX.fn:=by rfl
theorem aLu:XB 324 aHA.fn:=by rfl
theorem aLX:XB 325 aBQ.fn:=by rfl
theorem aLF:XB 326 aC3.fn:=by rfl
theorem aOE:XB 327 aGZ.fn:=by rfl
theorem aOS:XB 329 aIJ.fn:=by rfl
theorem aW7:Cx.T.gl.tab 7=some ([.int .u8 0,.int .u8 1,.int .u8 56,.int .u8 2,.int .u8 57,.int .u8 49,.int .u8 28,.int .u8 3,.int .u8 61,.int .u8 58,.int .u8 42,.int .u8 50,.int .u8 38,.int .u8 29,.int .u8 17,.int .u8 4,.int .u8 62,.int .u8 47,.int .u8 59,.int .u8 36,.int .u8 45,.int .u8 43,.int .u8 51,.int .u8 22,.int .u8 53,.int .u8 39,.int .u8 33,.int .u8 30,.int .u8 24,.int .u8 18,.int .u8 12,.int .u8 5,.int .u8 63,.int .u8 55,.int .u8 48,.int .u8 27,.int .u8 60,.int .u8 41,.int .u8 37,.int .u8 16,.int .u8 46,.int .u8 35,.int .u8 44,.int .u8 21,.int .u8 52,.int .u8 32,.int .u8 23,.int .u8 11,.int .u8 54,.int .u8 26,.int .u8 40,.int .u8 15,.int .u8 34,.int .u8 20,.int .u8 31,.int .u8 10,.int .u8 25,.int .u8 14,.int .u8 19,.int .u8 9,.int .u8 13,.int .u8 8,.int .u8 7,.int .u8 6]:List Value):=by rfl
theorem aXO:Cx.T.gl.tab 0=some ([.int .i64 4,.int .i64 2,.int .i64 4,.int .i64 4,.int .i64 4]:List Value):=by rfl
theorem aWP:Cx.T.gl.tab 4=some ([.int .u8 0,.int .u8 35,.int .u8 38,.int .u8 29,.int .u8 7,.int .u8 7,.int .u8 15,.int .u8 32,.int .u8 92]:List Value):=by rfl
theorem aXK:Cx.T.gl.tab 2=some ([.int .u8 0,.int .u8 1,.int .u8 1,.int .u8 1,.int .u8 3,.int .u8 3,.int .u8 2,.int .u8 2,.int .u8 2,.int .u8 2,.int .u8 3,.int .u8 3,.int .u8 3]:List Value):=by rfl
theorem aXC:Cx.T.gl.tab 1=some ([.string ⟨#[]⟩,.string ⟨#[]⟩,.string ⟨#[]⟩,.string ⟨#[]⟩,.string ⟨#[]⟩,.string ⟨#[]⟩,.string ⟨#[]⟩,.string ⟨#[]⟩,.string ⟨#[]⟩,.string ⟨#[]⟩,.string ⟨#[]⟩,.string ⟨#[]⟩,.string ⟨#[]⟩,.string ⟨#[]⟩,.string ⟨#[]⟩,.string ⟨#[73]⟩,.string ⟨#[83]⟩,.string ⟨#[69]⟩,.string ⟨#[79]⟩,.string ⟨#[77]⟩,.string ⟨#[73,83]⟩,.string ⟨#[73,77]⟩,.string ⟨#[83,77]⟩,.string ⟨#[79,77]⟩,.string ⟨#[73,65]⟩,.string ⟨#[77,73]⟩,.string ⟨#[73,73]⟩,.string ⟨#[]⟩,.string ⟨#[]⟩,.string ⟨#[]⟩,.string ⟨#[108,111,97,100]⟩,.string ⟨#[115,116,111,114,101]⟩,.string ⟨#[101,118,105,99,116]⟩,.string ⟨#[102,119,100,115]⟩,.string ⟨#[102,119,100,109]⟩,.string ⟨#[105,110,118]⟩,.string ⟨#[112,117,116]⟩,.string ⟨#[118,97,108,117,101]⟩,.string ⟨#[97,108,111,110,101]⟩,.string ⟨#[109,111,114,101]⟩,.string ⟨#[103,114,97,110,116]⟩,.string ⟨#[115,111,111,110]⟩,.string ⟨#[97,99,107]⟩,.string ⟨#[108,97,115,116]⟩,.string ⟨#[]⟩,.string ⟨#[116,97,107,101]⟩,.string ⟨#[97,115,107]⟩,.string ⟨#[97,115,107,109]⟩,.string ⟨#[112,117,116]⟩,.string ⟨#[103,105,118,101]⟩,.string ⟨#[99,111,112,121]⟩,.string ⟨#[105,110,118]⟩,.string ⟨#[100,111,110,101]⟩,.string ⟨#[100,111]⟩,.string ⟨#[100,114,111,112]⟩,.string ⟨#[]⟩,.string ⟨#[]⟩,.string ⟨#[]⟩,.string ⟨#[]⟩,.string ⟨#[]⟩,.string ⟨#[85,110]⟩,.string ⟨#[83,104]⟩,.string ⟨#[69,120]⟩,.string ⟨#[79,119]⟩,.string ⟨#[]⟩,.string ⟨#[]⟩,.string ⟨#[]⟩,.string ⟨#[]⟩,.string ⟨#[]⟩,.string ⟨#[]⟩,.string ⟨#[]⟩,.string ⟨#[]⟩,.string ⟨#[]⟩,.string ⟨#[]⟩,.string ⟨#[]⟩,.string ⟨#[103,101,116,115]⟩,.string ⟨#[103,101,116,109]⟩,.string ⟨#[117,112]⟩,.string ⟨#[98,97,99,107]⟩,.string ⟨#[115,116,97,108,101]⟩,.string ⟨#[]⟩,.string ⟨#[]⟩,.string ⟨#[]⟩,.string ⟨#[]⟩,.string ⟨#[]⟩,.string ⟨#[]⟩,.string ⟨#[]⟩,.string ⟨#[]⟩,.string ⟨#[]⟩,.string ⟨#[]⟩,.string ⟨#[105,110,118,115]⟩,.string ⟨#[109,101,109]⟩,.string ⟨#[97,108,111,110,101]⟩,.string ⟨#[102,119,100,115]⟩,.string ⟨#[102,119,100,109]⟩,.string ⟨#[103,114,97,110,116]⟩,.string ⟨#[119,114,105,116,101]⟩,.string ⟨#[98,97,99,107]⟩,.string ⟨#[99,108,101,97,114]⟩,.string ⟨#[110,111,116,101]⟩,.string ⟨#[98,111,116,104]⟩,.string ⟨#[111,119,110]⟩,.string ⟨#[102,114,101,101]⟩,.string ⟨#[98,117,115,121]⟩,.string ⟨#[116,119,105,99,101]⟩]:List Value):=by rfl
abbrev PS(f:FuncId):Prop:=∀{zs:List A}{dst:Option Nat}{ms:List MOp}{st:Ev.St}{k:List It}{Q:Ex->Ev.St->Prop},l9 Cx f zs dst ms st k Q↔KF Cx f (dZ st.H zs) (zs.all shut) dst 0 ms st k Q
theorem aXf:PS 14:=aC rfl
theorem aWL:PS 17:=aC rfl
theorem aW2:PS 18:=aC rfl
theorem aXk:PS 29:=aC rfl
theorem aW4:PS 32:=aC rfl
theorem aXd:PS 33:=aC rfl
theorem aXl:PS 34:=aC rfl
theorem aXi:PS 35:=aC rfl
theorem aWO:PS 36:=aC rfl
theorem aWU:PS 41:=aC rfl
theorem aXr:PS 42:=aC rfl
theorem aXQ:PS 43:=aC rfl
theorem aXL:PS 45:=aC rfl
theorem aW0:PS 46:=aC rfl
theorem aWY:PS 50:=aC rfl
theorem aXM:PS 59:=aC rfl
theorem aXP:PS 60:=aC rfl
theorem aXj:PS 61:=aC rfl
theorem aWN:PS 62:=aC rfl
theorem aXm:PS 63:=aC rfl
theorem aXp:PS 65:=aC rfl
theorem aXH:PS 73:=aC rfl
theorem aXN:PS 74:=aC rfl
theorem aXS:PS 79:=aC rfl
theorem aXq:PS 81:=aC rfl
theorem aXG:PS 85:=aC rfl
theorem aWT:PS 89:=aC rfl
theorem aV4:PS 100:=aC rfl
theorem aRV:PS 107:=aC rfl
theorem aWi:PS 109:=aC rfl
theorem aTN:PS 111:=aC rfl
theorem aVz:PS 112:=aC rfl
theorem aWn:PS 114:=aC rfl
theorem aTz:PS 116:=aC rfl
theorem aWu:PS 117:=aC rfl
theorem aVu:PS 118:=aC rfl
theorem aV1:PS 120:=aC rfl
theorem aUk:PS 123:=aC rfl
theorem aWq:PS 124:=aC rfl
theorem aSW:PS 125:=aC rfl
theorem aVf:PS 127:=aC rfl
theorem aUP:PS 130:=aC rfl
theorem aTx:PS 132:=aC rfl
theorem aSE:PS 133:=aC rfl
theorem aTQ:PS 140:=aC rfl
theorem aUw:PS 141:=aC rfl
theorem aWh:PS 162:=aC rfl
theorem aUf:PS 166:=aC rfl
theorem aUe:PS 169:=aC rfl
theorem aTk:PS 172:=aC rfl
theorem aVT:PS 174:=aC rfl
theorem aVm:PS 175:=aC rfl
theorem aVL:PS 176:=aC rfl
theorem aT9:PS 184:=aC rfl
theorem aU3:PS 187:=aC rfl
theorem aU0:PS 188:=aC rfl
theorem aU5:PS 190:=aC rfl
theorem aVw:PS 196:=aC rfl
theorem aV7:PS 198:=aC rfl
theorem aT7:PS 199:=aC rfl
theorem aVC:PS 200:=aC rfl
theorem aTE:PS 201:=aC rfl
theorem aVM:PS 202:=aC rfl
theorem aVX:PS 205:=aC rfl
theorem aVs:PS 210:=aC rfl
theorem aUJ:PS 214:=aC rfl
theorem aU4:PS 215:=aC rfl
theorem aSm:PS 216:=aC rfl
theorem aVI:PS 222:=aC rfl
theorem aTl:PS 225:=aC rfl
theorem aUI:PS 229:=aC rfl
theorem rA:PS 252:=aC rfl
theorem aTg:PS 253:=aC rfl
theorem aS4:PS 254:=aC rfl
theorem aVZ:PS 255:=aC rfl
theorem aUv:PS 263:=aC rfl
theorem aTi:PS 274:=aC rfl
theorem aSN:PS 286:=aC rfl
theorem aSQ:PS 292:=aC rfl
theorem aTd:PS 304:=aC rfl
theorem aSJ:PS 307:=aC rfl
theorem aU2:PS 308:=aC rfl
theorem aT1:PS 309:=aC rfl
theorem aUj:PS 310:=aC rfl
theorem aS8:PS 318:=aC rfl
theorem aSj:PS 319:=aC rfl
theorem aTW:PS 321:=aC rfl
theorem aUd:PS 322:=aC rfl
theorem aR7:PS 323:=aC rfl
theorem aRU:PS 328:=aC rfl
theorem aRY:PS 329:=aC rfl
attribute [go_sem] g3 aV3 aAG aWw XR g4 aUq aAn aSF aCj aWI Y6 g5 aUl aA8 aWt aB2 aSi Z7 g8 g9 g10 aLH LQ aM2 NS g11 aMr ML aOc L8 g12 g13 g14 aLl OZ aOh NN g15 aPk LM g16 g17 g18 g19 aRi M0 g24 g25 g26 g27 g28 g29 g30 g31 g32 g33 g34 g35 g36 g37 g38 g39 g40 aKi LL g41 g42 aMD N0 g43 g44 g45 g46 g47 g50 g52 g53 g54 g55 g56 aPy MY g57 g58 g59 g60 g61 aNo LA aLL NJ g62 g63 g64 g65 g66 g67 g68 g69 g70 g71 g72 aOB LN aPI L1 aQf MQ aM0 MW g73 aON LF aP5 N9 g74 g75 g76 g77 g78 g79 g80 g81 g82 aKW M3 aNn OQ g83 g84 g85 aPM OC g89 g94 g95 g96 g97 g98 g99 aA0 aHB EH MC aQd aL9 V8 aEa G9 aFb D7 aFI aER aGk aEP aIV aEt aEo aDf aDv aFZ aDQ aGR aIt NC aEM aGo aBF aHm F3 aC9 aDG aE6 aEf aIO aEd aDn aD8 aHK aDF aC5 aIA ET aDO aIU aG5 aDm aIh aMt aLY aOQ aRf aMI aLU aI5 aMT aFe aO0 aLZ aPS aQp aBf aM9 aOT aGJ aFc X8 aDo GE aGM aDp aFa aCF aGl F0 aGm aGS aE1 aF1 U9 aEH FK aDX FP aGf aGB aFg IB aDc EV aEF EI aG0 GJ aEJ GB aRK aQl aOJ aED aFV aHR aGO aDd aIq aIx aJg aDs aIz aGr aIu aCg aHM aGw U0 aEj GT aF9 GS aAe aEn EY aD0 Y4 aHa F8 aIL aGF aGb aHf aIj aGz aHU aBI aEk EF aBq aIe GN aJe X4 aEG FB aN1 aNC aQG ZP KI aFF FZ aE0 ES aFz F2 aGn GP W7 aEb EN aFh D8 XI aIf E4 aDI aFE aCG aD2 FR aLA aIK aJj aGI aFQ aQg aF2 aJa aDK aDz aI0 aF0 aHe aHZ aH5 aGA aD1 aEw aGd aES aHS aIw aEI aHX aH1 aHu aOK aCJ ZU aEZ aOd aEW aDB aBd aHH GK aGp aF3 aGP aGX aE8 aFW aFr aHb aF4 aIS aGD aLN aDP aO6 aNU aHg aGV aNm aFn aFx aIk aFB aDZ aGu aD5 aI7 aHV aFj aHz aHE aFT aI8 aEA XU aGU F4 aDb aEs aI6 aEy aAb aAr aEX FD aAF aFL E9 WZ aMv YH aHD FN aI9 aFM aHk aF5 aIr aG3 aQD US aEx GY aIF EK aGh aIi aIs XH aKL aH3 aD9 aEl aIX aHA aBQ aFY FQ aC3 aFk G2 aGZ aLs aIJ aXf aWL aW2 aXk aW4 aXd aXl aXi aWO aWU aXr aXQ aXL aW0 aWY aXM aXP aXj aWN aXm aXp aXH aXN aXS aXq aXG aWT aV4 aRV aWi aTN aVz aWn aTz aWu aVu aV1 aUk aWq aSW aVf aUP aTx aSE aTQ aUw aWh aUf aUe aTk aVT aVm aVL aT9 aU3 aU0 aU5 aVw aV7 aT7 aVC aTE aVM aVX aVs aUJ aU4 aSm aVI aTl aUI rA aTg aS4 aVZ aUv aTi aSN aSQ aTd aSJ aU2 aT1 aUj aS8 aSj aTW aUd aR7 aRU aRY aW3 aXt aW6 aXR aXg aUC aWJ aTc aU9 aVy aUx aS3 aR5 aUH aS7 aRZ aWy aUV aR3 aSr aS2 aT3 aUu aVF aR6 aVV aUh aVo aV2 aVK aUr aVv aWF aWs aV9 aTJ aVg aUp aUo aVa aVt aSy aRP aR8 aR4 aSA aTI aUN aT8 aRN aSg aUz aPD aQj aRJ aLj aL7 aQc aK9 aN3 aQP aKv aPH aP0 aKy aMB aQy aO3 aLa aKx aMp aLq aQA aMS aPK aRD aOP aMW aMF aPQ aNi aLW aP9 aQk aLe aMh aOi aKA aKk aOR aKj aOb aQh aRv aOv aOW aQV aOZ aPn aOu aLt aQs aQa aLG aK8 aM6 aOG aQt aNJ aNB aN9 aOL aPf aRI aPe aNV aNW aQK aKH aMC aKr aQE aQF aRe aQQ aRr aPt aNt aNN aRE aQR aOy aOf th1 th3 th4 th5 th9 aI4 aH6 aGc aEq aFf aHp aEV aGE aIY aEv aIP aH7 aG1 aFA aH0 aEN aAd aJf aFq aGW aDe aGH aFN aHQ aG6 aDq aC8 aG7 aHc MO aID aHI aGv aIT W6 aHC aIm aG2 aIv aGL aHd aDi aDl aHO aH4 NO aEh RF TJ SF S9 S8 P1 SO QT TS TI SX R3 TD QX DN T0 QA RO TQ O7 QL TF RZ RI ST Q5 SH RR SL Q9 P7 PR QN PQ RQ P4 QO RJ O1 TV QQ PG RB RC O3 QZ Q2 QC SE TB UE R4 TK SP PZ TO R6 RG SU R5 RU P5 T3 R7 PY RK TA PJ Q6 PE SQ Q7 Q4 TZ RH RX SA SD RV S6 SW aW7 aXO aWP aXK aXC
abbrev Sv(s:ByteArray):A:=.v (.string s)
abbrev I8(n:Int):A:=.v (.int .u8 n)
abbrev I64(n:Int):A:=.v (.int .i64 n)
abbrev Bo(b:Bool):A:=.v (.bool b)
theorem mT(s:ByteArray):s.data.toList.length=s.size:=rfl
theorem aE2{T:Tb}{P:Program}{f:FuncId}{zs:List A}{H H':aF}{x y:A}(hen:xU P f)(h:oQ T P f zs H x H')(hy:freeze H' 20 x=some y):oQ T P f zs H y (H'.map fun _=>none):=by rcases h with⟨zs',hl,-,-,hat⟩|⟨-,hcall⟩;{refine .inr ⟨hen,fun c ys hH ok hr=>?_⟩;subst hH;obtain⟨v,h1,-⟩:=hat [] (fun g=>c.own g/\¬img c.ρ c.H g) c.w ys (pZ ok (fun g hg=>hg) zs zs' ys hl hr);rw[hen]at h1;simp at h1};{refine .inr ⟨hen,fun c ys hH ok hr=>(hcall c ys hH ok hr).mono ?_⟩;rintro e w' ⟨v,c',rfl,rfl,hH',hto,ok',hR⟩;(have hno:∀g,¬img c'.ρ (c'.H.map fun _=>(none:Option Blk)) g:=by rintro g ⟨b,k,hb,-⟩;rw[List.getElem?_map]at hb;cases h:c'.H[b]?<;>rw[h]at hb<;>simp at hb);subst hH';(have hlend:dZ c'.H [x]=some [y]:=by unfold dZ dZ;rw[hy]);have hRL:RL c'.ρ c'.own c'.w [x] [v]:=RL.cons hR (by rw[RL]);have hy':=pZ ok' (own:=fun g=>c'.own g/\¬img c'.ρ c'.H g) (fun g hg=>hg) [x] [y] [v] hlend hRL;(have hRy:R [] (fun g=>c'.own g/\¬img c'.ρ c'.H g) c'.w y v:=by rw[RL]at hy';obtain⟨v',ys',e,h1,-⟩:=hy';simp only[List.cons.injEq]at e;obtain⟨rfl,-⟩:=e;exact h1);refine⟨v,⟨c'.ρ,fun g=>c'.own g/\¬img c'.ρ c'.H g,c'.H.map fun _=>none,c'.w⟩,rfl,rfl,rfl,?_,?_,hRy.open_⟩;{refine⟨hto.pre,hto.size,hto.os,hto.tape,hto.output,fun g _ hi=>(hno g hi).elim,hto.same,hto.shape,hto.maps,hto.kinds,fun g hg=>⟨fun h=>(hto.own g hg).1 h.1,fun h=>?_⟩⟩;rcases(hto.own g hg).2 h with h1|h1;{by_cases hi:img c'.ρ c'.H g;{exact .inr (hto.img g hg hi)};{exact .inl ⟨h1,hi⟩}};{exact .inr h1}};{refine⟨by rw[List.length_map];exact ok'.len,fun g hg=>ok'.lt g hg.1,fun g hi=>(hno g hi).elim,fun b e cs wh g hb hg=>?_,fun b b' k k' g hb hb'=>?_,ok'.glob.less fun g h=>h.1⟩;{exact(hno g ⟨b,_,hb,hg⟩).elim};{intro h1 h2;exact(hno g ⟨b,_,hb,h1⟩).elim}}}
noncomputable def X9(zs:List A)(H:aF):Option (A×aF):=match(m8 Cy 1000).2 (.fn 24) zs H with|some (x,H')=>(match freeze H' 20 x with|some y=>some (y,H'.map fun _=>none)|none=>none)|none=>none
theorem Z8{zs:List A}{H H':aF}{x:A}(h:X9 zs H=some (x,H')):oQ Cy.T Tryz.prog 24 zs H x H':=by unfold X9 at h;rw[wN]at h;cases h1:aS.callO Cy 1000 (.fn 24) zs H with|none=>simp[h1]at h|some r=>obtain⟨x1,H1⟩:=r;simp only[h1]at h;cases h2:freeze H1 20 x1 with|none=>simp[h2]at h|some y=>simp only[h2,Option.some.injEq,Prod.mk.injEq]at h;obtain⟨rfl,rfl⟩:=h;exact aE2 (tQ.enters (show Cy.B 24=some g24.fn from rfl)) ((dU tQ 1000).2.fn _ _ _ _ _ h1) h2
noncomputable def X5(f:FuncId):Option (List A->aF->Option (A×aF)):=bif Nat.beq f 24 then some X9 else TP f
theorem aAO:∀f g zs H x H',X5 f=some g->g zs H=some (x,H')->oQ Cy.T Tryz.prog f zs H x H':=by intro f g zs H x H' hg h;unfold X5 at hg;cases h1:Nat.beq f 24 with|true=>obtain rfl:=Nat.eq_of_beq_eq_true h1;rw[h1,cond_true]at hg;obtain rfl:=Option.some.inj hg;exact Z8 h|false=>rw[h1,cond_false]at hg;exact tQ.extO f g zs H x H' hg h
abbrev i8(n:Int):A:=.v (.int .u8 n)
abbrev i64(n:Int):A:=.v (.int .i64 n)
abbrev bo(b:Bool):A:=.v (.bool b)
abbrev sA(l:Array UInt8):A:=.v (.string ⟨l⟩)
def rp(n:Nat)(l:List A):List A:=(List.replicate n l).flatten
structure I7(a:A) where
 m:A
 h:a=m
noncomputable def CS(X:FuncId->List A->Option A):Ctx:=⟨Cy.T,Cy.B,X,X5⟩
theorem aKb{X:FuncId->List A->Option A}(h:QOk Cy.T Tryz.prog X):jG Tryz.prog (CS X):=⟨tQ.mixed,tQ.types,tQ.loops,tQ.fns,h,aAO⟩
theorem aJ0:QOk Cy.T Tryz.prog AZ:=tQ.ext
def RM:List (List A×A)->List A->Option A|[],_=>none|p::l,zs=>bif eqL p.1 zs then some p.2 else RM l zs
theorem DU:∀{l:List (List A×A)}{zs:List A}{r:A},RM l zs=some r->(zs,r)∈l|[],_,_,h=>by cases h|p::l,zs,r,h=>by unfold RM at h;cases hb:eqL p.1 zs with|true=>simp only[hb,cond_true,Option.some.injEq]at h;rw[<-h,<-mB _ _ hb];exact .head _|false=>simp only[hb,cond_false]at h;exact .tail _ (DU h)
def orX(f0:Nat)(t:List (List A×A))(X:FuncId->List A->Option A)(f:FuncId)(zs:List A):Option A:=bif Nat.beq f f0 then RM t zs else X f zs
theorem xL{X0 X:FuncId->List A->Option A}{f0:Nat}{t:List (List A×A)}(h0:QOk Cy.T Tryz.prog X0)(ht:∀p∈t,EvQ (CS X0) f0 p.1 p.2)(hX:QOk Cy.T Tryz.prog X):QOk Cy.T Tryz.prog (orX f0 t X):=by intro f zs r h;unfold orX at h;cases hb:Nat.beq f f0 with|false=>simp only[hb,cond_false]at h;exact hX f zs r h|true=>obtain rfl:=Nat.eq_of_beq_eq_true hb;simp only[hb,cond_true]at h;obtain⟨N,hN⟩:=ht _ (DU h);exact(dU (aKb h0) N).1 f zs r hN
