/- The evaluator's context: types and bodies, and that they are the program's. Printed by wip/ev/gen/ctx.py. -/
import Derived.Test.YtfkegfjggibdhaaGreatDoorV07
import Derived.Test.YtfkegfjggibdhaaGreatDoorV06
set_option linter.all false
namespace Go.Proofs.YtfkegfjggibdhaaGreatDoor.Ev
open Go Go.RowKit
set_option maxRecDepth 100000
def g23:GF 20 [.tmp 6] .shut Tryz.f23 (kpL aL [] [[0,1,2],[3,4,5],[3,4,5,7],[3,4,5,7],[3,4,5,7],[],[]]):=⟨_,by conv=>lhs;reduce⟩
def g24:GF 23 [.cell 6 44] .pass Tryz.f24:=⟨_,by conv=>lhs;cbv⟩
def g25:GF 3 [.cell 0 109] .shut Tryz.f25:=⟨_,by conv=>lhs;cbv⟩
def g33:GF 25 [.tmp 4] .shut Tryz.f33 (kpL aL [7] [[0,1],[1,2,4],[1,4,5,6],[],[1,4,5],[1,4,5,7],[7,19],[7,8],[7]]):=⟨_,by conv=>lhs;reduce⟩
def g38:GF 4 [.tmp 2] .pass Tryz.f38:=⟨_,by conv=>lhs;cbv⟩
def g40:GF 36 [.cell 2 62] .pass Tryz.f40 (kpL aL [] [[0],[1,2],[1,2],[1,2,10,11],[1,2,10,11],[1,2,3,10,11],[1,2,10,11],[1,2],[1,2],[1,2]]):=⟨_,by conv=>lhs;reduce⟩
def O1:Got (lpM g40.m 0):=⟨_,by conv=>lhs;cbv⟩
def aCh:M:=O1.m
theorem aJy:UL aCh O1.m:=ul
def g44:GF 8 [.tmp 6] .pass Tryz.f44:=⟨_,by conv=>lhs;cbv⟩
def g46:GF 96 [.tmp 6] .shut Tryz.f46:=⟨_,by conv=>lhs;cbv⟩
def g51:GF 19 [.tmp 6] .shut Tryz.f51:=⟨_,by conv=>lhs;cbv⟩
def g61:GF 18 [.cell 2 4] .shut Tryz.f61 (kpL aL [1,2] [[0],[1,2],[2],[1,2],[1,2,9],[1,2,3],[2],[2]]):=⟨_,by conv=>lhs;reduce⟩
def PM:Got (lpM g61.m 0):=⟨_,by conv=>lhs;cbv⟩
def lC:M:=PM.m
theorem aN9:UL lC PM.m:=ul
def N4:Got (lpM g61.m 1):=⟨_,by conv=>lhs;cbv⟩
def lJ:M:=N4.m
theorem aR9:UL lJ N4.m:=ul
def g68:GF 36 [.tmp 4,.tmp 5] .pass Tryz.f68:=⟨_,by conv=>lhs;cbv⟩
def g69:GF 47 [.tmp 4,.tmp 5] .pass Tryz.f69 (kpL aL [] [[0,1],[0,3],[0,3,6],[0,6,7,8,9,10]]):=⟨_,by conv=>lhs;reduce⟩
def g73:GF 19 [.tmp 4] .norm Tryz.f73 (kpL aL [5] [[0,1],[0,1,4],[],[0,1,4],[0,1,4,5],[5,13],[5,6],[5]]):=⟨_,by conv=>lhs;reduce⟩
def NK:Got (lpM g73.m 0):=⟨_,by conv=>lhs;cbv⟩
def GT:M:=NK.m
theorem aRF:UL GT NK.m:=ul
def MM:Got (lpM g73.m 1):=⟨_,by conv=>lhs;cbv⟩
def FO:M:=MM.m
theorem aJT:UL FO MM.m:=ul
def g76:GF 8 [.tmp 2] .pass Tryz.f76:=⟨_,by conv=>lhs;cbv⟩
def g88:GF 4 [.tmp 2] .pass Tryz.f88:=⟨_,by conv=>lhs;cbv⟩
def g90:GF 9 [] .pass Tryz.f90:=⟨_,by conv=>lhs;cbv⟩
def g94:GF 10 [.tmp 2] .shut Tryz.f94:=⟨_,by conv=>lhs;cbv⟩
def WF:GF 51 [.tmp 6] .pass Tryz.f101 (kpL aL [] [[0,1,2],[0,1,2],[0,1,7],[0,1,7,8,9],[],[0,1,7,8],[0,7,8,9,10],[],[0,7,8,10],[0,8,9,11],[],[0,8,11],[],[0,8,11],[]]):=⟨_,by conv=>lhs;reduce⟩
def aLh:GF 27 [.tmp 4] .pass Tryz.f108 (kpL aL [] [[0,1],[1,2],[1,2],[1,2]]):=⟨_,by conv=>lhs;reduce⟩
def aN3:GF 13 [.tmp 2] .shut Tryz.f111:=⟨_,by conv=>lhs;cbv⟩
def aSy:GF 56 [.cell 4 88] .shut Tryz.f116 (kpL aL [] [[0,1],[0,3,4],[4],[0,3,4],[3,4,5],[3,4,5,19],[4,5],[3,4,5,19],[3,4,5,19],[3,4,5,19],[3,4,5],[3,4,5,19],[3,4,5],[4]]):=⟨_,by conv=>lhs;reduce⟩
def aN1:GF 12 [.tmp 10] .pass Tryz.f119:=⟨_,by conv=>lhs;cbv⟩
def aNy:GF 22 [.tmp 4] .shut Tryz.f124:=⟨_,by conv=>lhs;cbv⟩
def aJ4:GF 75 [.cell 10 90,.tmp 11,.tmp 12,.tmp 13] .shut Tryz.f125 (kpL aL [] [[0,1,2,3,4],[2,5,6,8,9,10],[8,10],[2,5,6,8,9,10],[2,5,6,8,9,10,14],[2,5,6,8,9,10,14,16,17],[8,10],[2,5,6,8,9,10,14,16],[5,9,10,18],[5,10,18]]):=⟨_,by conv=>lhs;reduce⟩
def aM2:GF 9 [.tmp 4] .norm Tryz.f129:=⟨_,by conv=>lhs;cbv⟩
def aNs:GF 9 [.tmp 2] .shut Tryz.f130:=⟨_,by conv=>lhs;cbv⟩
def aMH:GF 8 [.tmp 6] .pass Tryz.f134:=⟨_,by conv=>lhs;cbv⟩
def aAT:GF 24 [] .pass Tryz.f137:=⟨_,by conv=>lhs;cbv⟩
def GZ:Got (lpM aAT.m 0):=⟨_,by conv=>lhs;cbv⟩
def RT:M:=GZ.m
theorem aHf:UL RT GZ.m:=ul
def FI:Got (lpM aAT.m 1):=⟨_,by conv=>lhs;cbv⟩
def RV:M:=FI.m
theorem aG3:UL RV FI.m:=ul
def aMZ:GF 12 [.tmp 4,.tmp 5] .pass Tryz.f150:=⟨_,by conv=>lhs;cbv⟩
def aUf:GF 31 [] .pass Tryz.f153 (kpL aL [2,3,4] [[0,1,2],[1,2,3],[1,2,3,4],[2,3,4,9],[2,3,4,5],[2,3,4,5],[2,3,4,5],[3,4,6]]):=⟨_,by conv=>lhs;reduce⟩
def aVa:GF 65 [.tmp 4] .shut Tryz.f156:=⟨_,by conv=>lhs;cbv⟩
def aW0:GF 59 [.cell 2 228,.tmp 3] .pass Tryz.f157 (kpL aL [] [[0],[0,2],[0,2,4],[2],[0,2,4,14],[0,2,4,14],[0,2,4],[0,2,4],[0,2,4,5,6],[2,4,5,6,7,8],[2],[2,4,5,7],[2,4]]):=⟨_,by conv=>lhs;reduce⟩
def aRW:GF 4 [.tmp 1] .pass Tryz.f163:=⟨_,by conv=>lhs;cbv⟩
def YR:GF 43 [.tmp 4] .shut Tryz.f169:=⟨_,by conv=>lhs;cbv⟩
def GV:Got (lpM YR.m 0):=⟨_,by conv=>lhs;cbv⟩
def S6:M:=GV.m
theorem aFI:UL S6 GV.m:=ul
def HD:Got (lpM YR.m 1):=⟨_,by conv=>lhs;cbv⟩
def QA:M:=HD.m
theorem aGL:UL QA HD.m:=ul
def aL2:GF 21 [.tmp 1] .pass Tryz.f170:=⟨_,by conv=>lhs;cbv⟩
def aVd:GF 43 [.cell 4 85] .shut Tryz.f176:=⟨_,by conv=>lhs;cbv⟩
def aOt:GF 15 [.cell 2 95] .pass Tryz.f177:=⟨_,by conv=>lhs;cbv⟩
def aJp:GF 30 [.tmp 2] .pass Tryz.f181 (kpL aL [] [[0],[0],[]]):=⟨_,by conv=>lhs;reduce⟩
def aOZ:GF 23 [.tmp 2] .pass Tryz.f182 (kpL aL [] [[0],[0],[0,3,4],[0,3],[]]):=⟨_,by conv=>lhs;reduce⟩
def aJI:GF 27 [.cell 4 90,.tmp 5] .shut Tryz.f184:=⟨_,by conv=>lhs;cbv⟩
def aG7:GF 71 [.cell 4 90,.tmp 5,.tmp 6,.tmp 7] .pass Tryz.f193 (kpL aL [] [[0,1],[0,1,4],[0,1,4,8],[1,4,8,9,10],[4,8,10],[1,4,8,9],[1,4,8,9,36,37],[1,4,8,9,36,37],[1,4,8,9,11,12,36,37],[1,4,8,9,12,36,37],[1,4,8,9,36,37],[1,4,8,9],[1,4,8,13],[4,8,13],[1,4]]):=⟨_,by conv=>lhs;reduce⟩
def G2:Got (lpM aG7.m 0):=⟨_,by conv=>lhs;cbv⟩
def E7:M:=G2.m
theorem aHK:UL E7 G2.m:=ul
def aMi:GF 18 [.tmp 10] .pass Tryz.f194:=⟨_,by conv=>lhs;cbv⟩
def aQG:GF 36 [.tmp 2] .pass Tryz.f197:=⟨_,by conv=>lhs;cbv⟩
def aQx:GF 32 [.tmp 6] .shut Tryz.f199:=⟨_,by conv=>lhs;cbv⟩
def aNA:GF 10 [.tmp 2] .shut Tryz.f202:=⟨_,by conv=>lhs;cbv⟩
def aWe:GF 220 [] .pass Tryz.f208 (kpL aL [] [[0,1,2,3,4],[0,1,2,3,4],[0,1,3,4,10],[0,1,4,10,11],[0,1,4,10,11],[0,1,4,10,11,12],[0,1,4,11,12],[0,1,4,10,12],[0,1,10],[0,10,13],[0,10,13],[0,10,13],[0,1,2,3,4],[0,1,2,4],[0,2,4,14],[0,2,4,14,15],[0,2,4,14,15],[0,2,4,14,15,16],[0,2,4,15,16],[0,2,4,14,16],[0,2,14],[0,14,17],[0,14,17],[0,14,17],[0,1,2,3,4],[0,1,2,3,4,18],[0,1,2,3,4,18,19],[0,1,2,3,4,18,19],[0,1,2,3,4,18,19],[0,1,2,3,4,18,19,20],[0,1,2,3,4,18,19],[0,1,2,3,4,18,19,20],[0,1,2,3,4,18,19,20,21],[0,1,2,3,4,18,19,20,21,22],[0,1,2,3,4,18,19,20,21,22],[0,1,2,3,4,18,19,20,21,22,23],[0,1,2,3,4,18,19,21,22,23],[0,1,2,3,4,18,19,20,22,23],[0,1,2,3,4,18,19,20],[0,1,2,3,4,18,20,24],[0,1,2,3,4,18,20,24],[0,1,3,4,18,20,24],[0,1,3,4,18,20,24],[0,3,4,18,24],[0,3,4,18,24]]):=⟨_,by conv=>lhs;reduce⟩
def aD6:GF 23 [.tmp 4,.tmp 5,.tmp 6] .shut Tryz.f212 (kpL aL [] [[0,1],[0,1],[0,1,7],[0,1,7],[0]]):=⟨_,by conv=>lhs;reduce⟩
def YH:GF 27 [.cell 2 344,.cell 3 3,.cell 4 63] .shut Tryz.f214 (kpL aL [2,3,4] [[0],[0,2,3,4],[2,3,4],[0,2,3,4],[2,3,4,5],[2,3,4,15,16],[2,3,4,6,16],[2,3,4,6,7],[2,3,4,6,7],[2,6],[2,3,4]]):=⟨_,by conv=>lhs;reduce⟩
def HJ:Got (lpM YH.m 0):=⟨_,by conv=>lhs;cbv⟩
def rW:M:=HJ.m
theorem aFp:UL rW HJ.m:=ul
def EE:Got (lpM YH.m 1):=⟨_,by conv=>lhs;cbv⟩
def rP:M:=EE.m
theorem aHZ:UL rP EE.m:=ul
def aKP:GF 9 [.tmp 4] .shut Tryz.f216:=⟨_,by conv=>lhs;cbv⟩
def aRA:GF 22 [.tmp 4,.tmp 5] .shut Tryz.f224 (kpL aL [] [[0,1],[2,3],[],[2,3],[2,6]]):=⟨_,by conv=>lhs;reduce⟩
def aO9:GF 101 [.tmp 4] .pass Tryz.f226 (kpL aL [] [[0,1],[0,1],[0,1],[0,12],[0],[0,12],[0,12],[0,12],[0,12],[0],[0],[0],[0,5,6],[6],[0,5],[0],[0],[0],[0],[]]):=⟨_,by conv=>lhs;reduce⟩
def aRT:GF 27 [.tmp 4] .pass Tryz.f227:=⟨_,by conv=>lhs;cbv⟩
def aKI:GF 22 [] .pass Tryz.f233 (kpL aL [] [[0],[0]]):=⟨_,by conv=>lhs;reduce⟩
def aJw:GF 20 [] .pass Tryz.f243:=⟨_,by conv=>lhs;cbv⟩
def aL1:GF 11 [] .pass Tryz.f244:=⟨_,by conv=>lhs;cbv⟩
def aXB:GF 58 [] .pass Tryz.f246:=⟨_,by conv=>lhs;cbv⟩
def aLd:GF 22 [.tmp 2] .shut Tryz.f253:=⟨_,by conv=>lhs;cbv⟩
def aP4:GF 8 [.tmp 1] .pass Tryz.f259:=⟨_,by conv=>lhs;cbv⟩
def aP9:GF 16 [.tmp 1] .pass Tryz.f262:=⟨_,by conv=>lhs;cbv⟩
def aSb:GF 11 [.tmp 2] .shut Tryz.f263:=⟨_,by conv=>lhs;cbv⟩
def aSL:GF 64 [.tmp 2] .pass Tryz.f264:=⟨_,by conv=>lhs;cbv⟩
def aKB:GF 16 [.tmp 4] .pass Tryz.f275 (kpL aL [] [[0,1,2],[0,1,2]]):=⟨_,by conv=>lhs;reduce⟩
def aLo:GF 15 [] .pass Tryz.f276:=⟨_,by conv=>lhs;cbv⟩
def aKJ:GF 13 [] .pass Tryz.f279 (kpL aL [] [[0]]):=⟨_,by conv=>lhs;reduce⟩
def aJQ:GF 92 [] .pass Tryz.f284 (kpL aL [] [[0],[0,2],[0,2],[0,2,3],[0,2,3,4],[0,2,3,4],[0,2,3,4],[0,2,3,4]]):=⟨_,by conv=>lhs;reduce⟩
def aOa:GF 5 [] .pass Tryz.f285:=⟨_,by conv=>lhs;cbv⟩
def aKi:GF 26 [.cell 6 90] .shut Tryz.f288:=⟨_,by conv=>lhs;cbv⟩
def aRl:GF 36 [] .pass Tryz.f290 (kpL aL [] [[0,1],[0,1],[1]]):=⟨_,by conv=>lhs;reduce⟩
def aOm:GF 34 [] .pass Tryz.f291 (kpL aL [] [[0,1],[0,6,7,8],[0,6,7,8],[0,5,6,7,8],[0,5,6,7,8],[0,6,7,8]]):=⟨_,by conv=>lhs;reduce⟩
def aEc:GF 8 [.tmp 4] .shut Tryz.f296:=⟨_,by conv=>lhs;cbv⟩
def aMJ:GF 13 [.tmp 2] .pass Tryz.f306 (kpL aL [] [[0],[0]]):=⟨_,by conv=>lhs;reduce⟩
def aTx:GF 3 [.tmp 0] .shut Tryz.f311:=⟨_,by conv=>lhs;cbv⟩
def aLj:GF 51 [.cell 2 349] .pass Tryz.f316 (kpL aL [] [[0],[0,2],[0,2,3,4],[0,2,3,4,17],[0,2],[0,2,3,4,17],[0,2],[0,2,3,4],[0,2,3,4,5],[0,2,3,5]]):=⟨_,by conv=>lhs;reduce⟩
def aCi:GF 47 [.tmp 2,.tmp 3] .shut Tryz.f318:=⟨_,by conv=>lhs;cbv⟩
def aX4:GF 6 [.tmp 2] .shut Tryz.f319:=⟨_,by conv=>lhs;cbv⟩
def aHg:GF 28 [.tmp 2] .pass Tryz.f325:=⟨_,by conv=>lhs;cbv⟩
def GL:Got (lpM aHg.m 0):=⟨_,by conv=>lhs;cbv⟩
def SW:M:=GL.m
theorem aGh:UL SW GL.m:=ul
def aYw:GF 14 [.tmp 2] .shut Tryz.f328:=⟨_,by conv=>lhs;cbv⟩
def g11:GF 36 [.tmp 4] .norm Tryz.f11 (kpL aL [5,6] [[0,1],[2,3,4],[],[2,3,4],[4,5],[4,5,6],[5,6,19],[5,6,7],[6,7,9],[6,7],[6,7,26],[6,7,26],[6,7,26],[6]]):=⟨_,by conv=>lhs;reduce⟩
def NQ:Got (lpM g11.m 0):=⟨_,by conv=>lhs;cbv⟩
def xJ:M:=NQ.m
theorem aLf:UL xJ NQ.m:=ul
def MP:Got (lpM g11.m 1):=⟨_,by conv=>lhs;cbv⟩
def wK:M:=MP.m
theorem aL4:UL wK MP.m:=ul
def g17:GF 25 [.tmp 4] .shut Tryz.f17:=⟨_,by conv=>lhs;cbv⟩
def g18:GF 28 [.cell 6 81,.tmp 7] .shut Tryz.f18:=⟨_,by conv=>lhs;cbv⟩
def g27:GF 26 [.tmp 4] .shut Tryz.f27 (kpL aL [] [[0,1],[0,1],[],[0,1],[0,1,5],[0,1,5],[0,1,5],[],[]]):=⟨_,by conv=>lhs;reduce⟩
def g28:GF 37 [.cell 2 42,.tmp 3] .shut Tryz.f28:=⟨_,by conv=>lhs;cbv⟩
def g29:GF 61 [.tmp 2] .shut Tryz.f29:=⟨_,by conv=>lhs;cbv⟩
def g30:GF 2 [.cell 0 95] .norm Tryz.f30:=⟨_,by conv=>lhs;cbv⟩
def g31:GF 17 [.cell 4 90] .shut Tryz.f31:=⟨_,by conv=>lhs;cbv⟩
def g35:GF 12 [.cell 6 58] .shut Tryz.f35 (kpL aL [] [[0,1,2],[0,1,5,6]]):=⟨_,by conv=>lhs;reduce⟩
def g39:GF 29 [.tmp 4,.tmp 5] .pass Tryz.f39 (kpL aL [] [[0,1],[0,3],[],[0,3],[3,6,7],[],[3,6]]):=⟨_,by conv=>lhs;reduce⟩
def g48:GF 6 [.tmp 2] .shut Tryz.f48:=⟨_,by conv=>lhs;cbv⟩
def g49:GF 33 [.tmp 4] .shut Tryz.f49 (kpL aL [3,5] [[0,1],[2,3,4],[],[2,3,4],[2,3,4,5],[3,5,15,16],[3,5,6,16],[3,5,6,7],[5,8],[5,8],[5],[5]]):=⟨_,by conv=>lhs;reduce⟩
def MF:Got (lpM g49.m 0):=⟨_,by conv=>lhs;cbv⟩
def BQ:M:=MF.m
theorem aKq:UL BQ MF.m:=ul
def P2:Got (lpM g49.m 1):=⟨_,by conv=>lhs;cbv⟩
def AR:M:=P2.m
theorem aL9:UL AR P2.m:=ul
def g52:GF 54 [.cell 2 42,.tmp 3] .shut Tryz.f52:=⟨_,by conv=>lhs;cbv⟩
def g55:GF 12 [.tmp 2] .shut Tryz.f55:=⟨_,by conv=>lhs;cbv⟩
def g56:GF 40 [.tmp 4] .pass Tryz.f56 (kpL aL [] [[0,1],[0,1],[0,1,13,14,15],[0,1,13,14,15],[0,1,6,13,14,15],[0,1,7,8,13,14,15],[8],[0,1,7,13,14,15],[0,1,13,14,15],[]]):=⟨_,by conv=>lhs;reduce⟩
def PA:Got (lpM g56.m 0):=⟨_,by conv=>lhs;cbv⟩
def aDx:M:=PA.m
theorem aMO:UL aDx PA.m:=ul
def g59:GF 15 [.tmp 6] .shut Tryz.f59:=⟨_,by conv=>lhs;cbv⟩
def g60:GF 18 [.tmp 2] .shut Tryz.f60:=⟨_,by conv=>lhs;cbv⟩
def g62:GF 32 [.cell 4 90,.tmp 5] .shut Tryz.f62:=⟨_,by conv=>lhs;cbv⟩
def g64:GF 6 [.tmp 4] .pass Tryz.f64:=⟨_,by conv=>lhs;cbv⟩
def g79:GF 8 [.tmp 2] .norm Tryz.f79:=⟨_,by conv=>lhs;cbv⟩
def g80:GF 17 [.tmp 4] .pass Tryz.f80:=⟨_,by conv=>lhs;cbv⟩
def g83:GF 4 [.tmp 2] .pass Tryz.f83:=⟨_,by conv=>lhs;cbv⟩
def g85:GF 26 [.tmp 4,.tmp 5] .shut Tryz.f85:=⟨_,by conv=>lhs;cbv⟩
def L9:Got (lpM g85.m 0):=⟨_,by conv=>lhs;cbv⟩
def X3:M:=L9.m
theorem aQq:UL X3 L9.m:=ul
def g89:GF 6 [.tmp 2] .shut Tryz.f89:=⟨_,by conv=>lhs;cbv⟩
def g91:GF 10 [.tmp 4] .shut Tryz.f91:=⟨_,by conv=>lhs;cbv⟩
def g96:GF 95 [] .pass Tryz.f96:=⟨_,by conv=>lhs;cbv⟩
def aTW:GF 3 [.tmp 0] .shut Tryz.f102:=⟨_,by conv=>lhs;cbv⟩
def aLu:GF 42 [.tmp 4] .shut Tryz.f107:=⟨_,by conv=>lhs;cbv⟩
def aPK:GF 20 [] .pass Tryz.f110 (kpL aL [] [[0,1,2],[0,1,2,4],[0,1,2,4],[0,1,2,4]]):=⟨_,by conv=>lhs;reduce⟩
def aOx:GF 15 [.tmp 4] .pass Tryz.f122 (kpL aL [] [[0,1,2],[0,1,2]]):=⟨_,by conv=>lhs;reduce⟩
def aN0:GF 10 [] .pass Tryz.f126:=⟨_,by conv=>lhs;cbv⟩
def aKY:GF 86 [.cell 10 58,.tmp 11,.tmp 12] .shut Tryz.f127 (kpL aL [] [[0,1,2,3,4],[2,5,6,8,9,10],[8,10],[2,5,6,8,9,10],[2,5,6,8,9,10,30],[2,5,6,8,9,10,30],[8,9,10],[2,5,6,8,9,10],[2,5,6,8,9,10,13,14],[8,10],[2,5,6,8,9,10,13],[8,10],[2,5,6,8,9,10,13],[8,10],[2,5,6,8,9,10,13],[2,6,8,9,10,15],[2,6,8,9,10,15,16],[8,10,16],[2,6,8,9,10,15],[10,15,17],[10,15,17],[10,17]]):=⟨_,by conv=>lhs;reduce⟩
def aNP:GF 20 [.tmp 4] .shut Tryz.f133:=⟨_,by conv=>lhs;cbv⟩
def aN2:GF 63 [] .pass Tryz.f138:=⟨_,by conv=>lhs;cbv⟩
def aPB:GF 17 [.tmp 4] .shut Tryz.f140:=⟨_,by conv=>lhs;cbv⟩
def aV0:GF 22 [] .pass Tryz.f142 (kpL aL [] [[0,1,2,3,4]]):=⟨_,by conv=>lhs;reduce⟩
def aUF:GF 33 [] .pass Tryz.f143:=⟨_,by conv=>lhs;cbv⟩
def aKO:GF 9 [.tmp 2] .pass Tryz.f148:=⟨_,by conv=>lhs;cbv⟩
def aM7:GF 25 [.tmp 2] .pass Tryz.f158:=⟨_,by conv=>lhs;cbv⟩
def aGJ:GF 20 [.tmp 3] .pass Tryz.f160:=⟨_,by conv=>lhs;cbv⟩
def EX:Got (lpM aGJ.m 0):=⟨_,by conv=>lhs;cbv⟩
def EM:M:=EX.m
theorem aHN:UL EM EX.m:=ul
def aSK:GF 7 [.tmp 1] .pass Tryz.f161:=⟨_,by conv=>lhs;cbv⟩
def aHl:GF 56 [.tmp 2] .pass Tryz.f164 (kpL aL [] [[0],[0],[],[0],[0,35,36,37],[0,35,36,37],[0,3,4,35,36,37],[],[0,35,36,37],[]]):=⟨_,by conv=>lhs;reduce⟩
def E8:Got (lpM aHl.m 0):=⟨_,by conv=>lhs;cbv⟩
def SK:M:=E8.m
theorem aE4:UL SK E8.m:=ul
def aMy:GF 6 [.tmp 2] .shut Tryz.f166:=⟨_,by conv=>lhs;cbv⟩
def aPf:GF 17 [.tmp 1] .pass Tryz.f171 (kpL aL [] [[0],[0]]):=⟨_,by conv=>lhs;reduce⟩
def NS:GF 36 [] .pass Tryz.f173:=⟨_,by conv=>lhs;cbv⟩
def FU:Got (lpM NS.m 0):=⟨_,by conv=>lhs;cbv⟩
def RD:M:=FU.m
theorem aGo:UL RD FU.m:=ul
def F5:Got (lpM NS.m 1):=⟨_,by conv=>lhs;cbv⟩
def SL:M:=F5.m
theorem aHy:UL SL F5.m:=ul
def E0:Got (lpM NS.m 2):=⟨_,by conv=>lhs;cbv⟩
def P7:M:=E0.m
theorem aFz:UL P7 E0.m:=ul
def E1:Got (lpM NS.m 3):=⟨_,by conv=>lhs;cbv⟩
def QY:M:=E1.m
theorem aEI:UL QY E1.m:=ul
def aMX:GF 23 [] .pass Tryz.f183 (kpL aL [] [[0,1]]):=⟨_,by conv=>lhs;reduce⟩
def aJA:GF 18 [.tmp 4] .shut Tryz.f186:=⟨_,by conv=>lhs;cbv⟩
def aKN:GF 23 [.cell 6 81,.tmp 7] .shut Tryz.f188:=⟨_,by conv=>lhs;cbv⟩
def aFf:GF 62 [] .pass Tryz.f195 (kpL aL [] [[0,1,2,3,4],[1,2,3,4],[1,2,4],[1,2,4,26,27,28],[1,2,4,26,27,28],[1,2,4,6,26,27,28],[1,2,4,26,27,28],[1,4]]):=⟨_,by conv=>lhs;reduce⟩
def G3:Got (lpM aFf.m 0):=⟨_,by conv=>lhs;cbv⟩
def GW:M:=G3.m
theorem aEK:UL GW G3.m:=ul
def aKo:GF 52 [.cell 4 81,.tmp 5,.tmp 6] .shut Tryz.f198 (kpL aL [] [[0,1],[2,3,4],[2,3,4,8],[2,4],[2,3,4,8],[2,4],[2,3,4,8],[2,4],[2,3,4,8],[2,4],[2,3,4,8],[2,3,4,8],[2,3,4],[2,3,4],[2,3,4],[2,4,8],[2,4],[2,4],[2,4],[2,4],[2,4]]):=⟨_,by conv=>lhs;reduce⟩
def aOb:GF 22 [.tmp 4,.tmp 5] .shut Tryz.f201:=⟨_,by conv=>lhs;cbv⟩
def aER:GF 22 [] .pass Tryz.f203:=⟨_,by conv=>lhs;cbv⟩
def FN:Got (lpM aER.m 0):=⟨_,by conv=>lhs;cbv⟩
def SO:M:=FN.m
theorem aGP:UL SO FN.m:=ul
def aWn:GF 19 [.tmp 2] .shut Tryz.f209:=⟨_,by conv=>lhs;cbv⟩
def aJq:GF 14 [.tmp 2] .pass Tryz.f217:=⟨_,by conv=>lhs;cbv⟩
def aQQ:GF 5 [] .pass Tryz.f230:=⟨_,by conv=>lhs;cbv⟩
def aNE:GF 15 [] .pass Tryz.f235 (kpL aL [] [[0]]):=⟨_,by conv=>lhs;reduce⟩
def aPc:GF 11 [] .pass Tryz.f236:=⟨_,by conv=>lhs;cbv⟩
def aNo:GF 9 [.tmp 2] .shut Tryz.f245:=⟨_,by conv=>lhs;cbv⟩
def aHb:GF 143 [.tmp 4] .shut Tryz.f250:=⟨_,by conv=>lhs;cbv⟩
def aMa:GF 9 [.tmp 1] .pass Tryz.f257 (kpL aL [] [[0],[0]]):=⟨_,by conv=>lhs;reduce⟩
def aLT:GF 56 [.tmp 2] .pass Tryz.f265:=⟨_,by conv=>lhs;cbv⟩
def aR2:GF 26 [.tmp 1] .pass Tryz.f266 (kpL aL [] [[0],[0]]):=⟨_,by conv=>lhs;reduce⟩
def aXF:GF 7 [.cell 4 85] .shut Tryz.f269:=⟨_,by conv=>lhs;cbv⟩
def aWd:GF 23 [.cell 4 85] .shut Tryz.f270:=⟨_,by conv=>lhs;cbv⟩
def aUH:GF 3 [] .pass Tryz.f273:=⟨_,by conv=>lhs;cbv⟩
def aOX:GF 8 [] .pass Tryz.f277:=⟨_,by conv=>lhs;cbv⟩
def aFJ:GF 29 [] .pass Tryz.f289 (kpL aL [] [[0,1],[1,4],[1,4,17],[1,4,17],[1,4,5,17],[1,4,5,17],[1,4,17]]):=⟨_,by conv=>lhs;reduce⟩
def GU:Got (lpM aFJ.m 0):=⟨_,by conv=>lhs;cbv⟩
def EL:M:=GU.m
theorem aF3:UL EL GU.m:=ul
def aRH:GF 6 [.cell 2 54] .shut Tryz.f292:=⟨_,by conv=>lhs;cbv⟩
def aKD:GF 26 [.cell 4 54] .shut Tryz.f293 (kpL aL [] [[0,1],[1,2,4],[1,2,4,5,6],[2,4],[1,2,4,5]]):=⟨_,by conv=>lhs;reduce⟩
def aJb:GF 27 [.tmp 4] .shut Tryz.f307:=⟨_,by conv=>lhs;cbv⟩
def aNz:GF 45 [.tmp 4] .shut Tryz.f310 (kpL aL [6] [[0,1],[1,2,4],[],[1,2,4],[2,4,5],[5],[2,4,5],[2,5],[2,4,5],[2,4,5,6],[6,36],[6,7],[5,6]]):=⟨_,by conv=>lhs;reduce⟩
def aCj:GF 50 [] .pass Tryz.f314 (kpL aL [] [[0],[0],[0],[0],[0]]):=⟨_,by conv=>lhs;reduce⟩
def HG:Got (lpM aCj.m 0):=⟨_,by conv=>lhs;cbv⟩
def R7:M:=HG.m
theorem aE6:UL R7 HG.m:=ul
def FR:Got (lpM aCj.m 1):=⟨_,by conv=>lhs;cbv⟩
def QN:M:=FR.m
theorem aEB:UL QN FR.m:=ul
def aJm:GF 15 [.cell 4 54] .shut Tryz.f321:=⟨_,by conv=>lhs;cbv⟩
def aP3:GF 39 [.cell 4 54] .shut Tryz.f322:=⟨_,by conv=>lhs;cbv⟩
def aSd:GF 16 [.cell 4 54] .shut Tryz.f323:=⟨_,by conv=>lhs;cbv⟩
def aEj:GF 29 [.tmp 2] .pass Tryz.f326:=⟨_,by conv=>lhs;cbv⟩
def E5:Got (lpM aEj.m 0):=⟨_,by conv=>lhs;cbv⟩
def QE:M:=E5.m
theorem aGX:UL QE E5.m:=ul
def aLz:GF 15 [] .pass Tryz.f327:=⟨_,by conv=>lhs;cbv⟩
def g7:GF 129 [.tmp 6] .shut Tryz.f7 (kpL aL [] [[0,1,2],[1,2,3],[],[1,2,3],[2,3,7],[],[2,3],[2,3,8],[2,3,8,10],[2,3,8,10,11],[2,3,8,10,11],[2,3,8,10,11],[2,3,8,10],[2,3,8,10,12],[2,3,8,10,12],[2,3,8,10,12],[],[2,3,8,10,12],[2,3,8,10,12,13],[2,3,8,10,12,13],[2,3,8,10,12,14,15,16],[],[2,3,8,10,12,14,15],[2,3,8,10,12,14,15,17],[2,3,8,10,12,14,15,17],[2,3,8,10,12,14,15,17],[2,3,8,10,12,14,15,17,18],[],[2,3,8,10,12,14,15,17,18],[2,3,8,10,12,14],[]]):=⟨_,by conv=>lhs;reduce⟩
def YU:Got (lpM g7.m 0):=⟨_,by conv=>lhs;cbv⟩
def aIM:M:=YU.m
theorem aV8:UL aIM YU.m:=ul
def aAb:Got (lpM g7.m 1):=⟨_,by conv=>lhs;cbv⟩
def X8:M:=aAb.m
theorem aWc:UL X8 aAb.m:=ul
def W6:Got (lpM g7.m 2):=⟨_,by conv=>lhs;cbv⟩
def aIS:M:=W6.m
theorem aUG:UL aIS W6.m:=ul
def g8:GF 86 [.tmp 0] .shut Tryz.f8:=⟨_,by conv=>lhs;cbv⟩
def g32:GF 16 [.tmp 2] .shut Tryz.f32:=⟨_,by conv=>lhs;cbv⟩
def g34:GF 23 [.cell 8 56] .shut Tryz.f34:=⟨_,by conv=>lhs;cbv⟩
def g36:GF 12 [.tmp 4] .shut Tryz.f36:=⟨_,by conv=>lhs;cbv⟩
def g45:GF 29 [.tmp 6,.tmp 7,.tmp 8] .shut Tryz.f45 (kpL aL [] [[0,1,2],[2,3,4],[],[2,3,4],[2,4,9],[2,4,6,9],[6,7,8]]):=⟨_,by conv=>lhs;reduce⟩
def g50:GF 6 [.tmp 2] .shut Tryz.f50:=⟨_,by conv=>lhs;cbv⟩
def g53:GF 10 [.tmp 2] .shut Tryz.f53:=⟨_,by conv=>lhs;cbv⟩
def g63:GF 11 [.tmp 4] .shut Tryz.f63:=⟨_,by conv=>lhs;cbv⟩
def g75:GF 59 [.tmp 4] .pass Tryz.f75 (kpL aL [] [[0,1],[0,3],[0,3,5],[0,3,5,23],[0,3,5,23],[0,3,5,23],[3,5],[0,3,5,23],[0,3,5],[3,23],[3],[]]):=⟨_,by conv=>lhs;reduce⟩
def g78:GF 8 [.tmp 2] .pass Tryz.f78:=⟨_,by conv=>lhs;cbv⟩
def g82:GF 22 [.cell 8 3,.cell 9 4] .pass Tryz.f82 (kpL aL [7,8,9] [[0,1,2,3],[1,2,4,7,8,9],[7,8,9,16,17],[7,8,9,10,17],[7,8,9,10,11],[8,9,10],[8,9]]):=⟨_,by conv=>lhs;reduce⟩
def PK:Got (lpM g82.m 0):=⟨_,by conv=>lhs;cbv⟩
def qC:M:=PK.m
theorem aOR:UL qC PK.m:=ul
def OR:Got (lpM g82.m 1):=⟨_,by conv=>lhs;cbv⟩
def p7:M:=OR.m
theorem aS3:UL p7 OR.m:=ul
def g87:GF 7 [.tmp 2] .shut Tryz.f87:=⟨_,by conv=>lhs;cbv⟩
def g92:GF 20 [.tmp 4] .shut Tryz.f92:=⟨_,by conv=>lhs;cbv⟩
def g95:GF 41 [] .pass Tryz.f95:=⟨_,by conv=>lhs;cbv⟩
def g97:GF 60 [] .pass Tryz.f97:=⟨_,by conv=>lhs;cbv⟩
def g99:GF 5 [.tmp 2] .pass Tryz.f99:=⟨_,by conv=>lhs;cbv⟩
def Z8:GF 21 [.cell 6 42,.cell 7 63] .shut Tryz.f104 (kpL aL [3,4,5,6,7] [[0,1,2],[3,4,5,6,7],[3,4,5,6,7,11,12],[3,4,5,6,7,8,12],[3,4,5,6,7,8,9],[3,5,6,7,9],[3,6,7],[6,7]]):=⟨_,by conv=>lhs;reduce⟩
def FZ:Got (lpM Z8.m 0):=⟨_,by conv=>lhs;cbv⟩
def uJ:M:=FZ.m
theorem aEf:UL uJ FZ.m:=ul
def F6:Got (lpM Z8.m 1):=⟨_,by conv=>lhs;cbv⟩
def vX:M:=F6.m
theorem aHI:UL vX F6.m:=ul
def aPQ:GF 18 [.tmp 2] .pass Tryz.f105:=⟨_,by conv=>lhs;cbv⟩
def aKc:GF 1 [.tmp 0] .pass Tryz.f106:=⟨_,by conv=>lhs;cbv⟩
def aPb:GF 8 [.cell 4 85] .shut Tryz.f109:=⟨_,by conv=>lhs;cbv⟩
def aLt:GF 20 [] .pass Tryz.f113 (kpL aL [] [[0,1,2]]):=⟨_,by conv=>lhs;reduce⟩
def aKa:GF 28 [.cell 2 88,.tmp 3] .shut Tryz.f117 (kpL aL [] [[0],[1,2],[2],[1,2]]):=⟨_,by conv=>lhs;reduce⟩
def aHs:GF 19 [.tmp 4] .pass Tryz.f121:=⟨_,by conv=>lhs;cbv⟩
def F4:Got (lpM aHs.m 0):=⟨_,by conv=>lhs;cbv⟩
def RP:M:=F4.m
theorem aG1:UL RP F4.m:=ul
def aO7:GF 29 [.tmp 4,.cell 5 73,.tmp 6] .norm Tryz.f123 (kpL aL [] [[0,1],[0,1,5],[5],[0,1,5]]):=⟨_,by conv=>lhs;reduce⟩
def aRE:GF 20 [] .pass Tryz.f128 (kpL aL [] [[0,1,2,3,4],[1,3,4]]):=⟨_,by conv=>lhs;reduce⟩
def aQf:GF 6 [.tmp 4] .pass Tryz.f131:=⟨_,by conv=>lhs;cbv⟩
def aFU:GF 19 [.tmp 4] .shut Tryz.f132 (kpL aL [] [[0,1],[0,3],[0,3,7,8],[0,3,7,8],[0,3,5,7,8],[5],[0,3,7,8],[]]):=⟨_,by conv=>lhs;reduce⟩
def FX:Got (lpM aFU.m 0):=⟨_,by conv=>lhs;cbv⟩
def R8:M:=FX.m
theorem aHe:UL R8 FX.m:=ul
def aQK:GF 13 [.tmp 3] .pass Tryz.f135:=⟨_,by conv=>lhs;cbv⟩
def aYz:GF 17 [] .pass Tryz.f144:=⟨_,by conv=>lhs;cbv⟩
def aXh:GF 4 [.tmp 2] .pass Tryz.f146:=⟨_,by conv=>lhs;cbv⟩
def aWo:GF 51 [.tmp 4,.tmp 5] .pass Tryz.f151:=⟨_,by conv=>lhs;cbv⟩
def aVt:GF 8 [.tmp 4] .pass Tryz.f154:=⟨_,by conv=>lhs;cbv⟩
def aNb:GF 34 [.tmp 2] .shut Tryz.f162:=⟨_,by conv=>lhs;cbv⟩
def aLR:GF 21 [.tmp 2] .pass Tryz.f165:=⟨_,by conv=>lhs;cbv⟩
def aQi:GF 11 [.tmp 3] .pass Tryz.f168:=⟨_,by conv=>lhs;cbv⟩
def aKS:GF 10 [.tmp 6] .shut Tryz.f172:=⟨_,by conv=>lhs;cbv⟩
def aX9:GF 2 [.cell 0 226] .shut Tryz.f174:=⟨_,by conv=>lhs;cbv⟩
def aR8:GF 31 [.tmp 2] .pass Tryz.f178 (kpL aL [] [[0],[0],[]]):=⟨_,by conv=>lhs;reduce⟩
def aLF:GF 3 [.tmp 2] .pass Tryz.f180:=⟨_,by conv=>lhs;cbv⟩
def aSa:GF 20 [] .pass Tryz.f185 (kpL aL [] [[0,1,2,3]]):=⟨_,by conv=>lhs;reduce⟩
def aMx:GF 12 [.tmp 4] .shut Tryz.f187:=⟨_,by conv=>lhs;cbv⟩
def aSf:GF 21 [.tmp 6,.tmp 7] .shut Tryz.f190 (kpL aL [] [[0,1,2],[2,3,4],[],[2,3,4],[2,4,8]]):=⟨_,by conv=>lhs;reduce⟩
def aQ6:GF 14 [.tmp 3] .pass Tryz.f191:=⟨_,by conv=>lhs;cbv⟩
def aA3:GF 65 [.cell 8 81,.tmp 9] .pass Tryz.f192 (kpL aL [7,12] [[0,1,2,3],[2,4,5,7,8,9],[8],[2,4,5,7,8,9],[2,5,7,8,9,10],[5,7,8,9,10,11,12],[7,12,33,34],[7,12,13,34],[7,12,13,14],[12,13],[5,8,11,12],[5,8,11,15,16],[8],[5,8,11,15]]):=⟨_,by conv=>lhs;reduce⟩
def EO:Got (lpM aA3.m 0):=⟨_,by conv=>lhs;cbv⟩
def zA:M:=EO.m
theorem aFo:UL zA EO.m:=ul
def FV:Got (lpM aA3.m 1):=⟨_,by conv=>lhs;cbv⟩
def y3:M:=FV.m
theorem aEe:UL y3 FV.m:=ul
def aRP:GF 71 [.cell 6 95] .norm Tryz.f196 (kpL aL [] [[0,1,2],[0,4,5,6],[0,5,6,7],[6,7],[6,7,8],[6,7,8],[6,7,8],[6,7],[0,5,6,7],[0,5,6,7],[0,5,6,7],[5,6,7],[5,6,7],[6,7],[6,7],[6,7]]):=⟨_,by conv=>lhs;reduce⟩
def aF1:GF 40 [] .pass Tryz.f204 (kpL aL [] [[0,1,2],[0,1,2,4],[0,2,4,9,10,11],[0,2,4,9,10,11],[0,2,4,5,6,9,10,11],[0,2,4,5,7,9,10,11],[0,2,4,5,7,9,10,11],[0,2,4,9,10,11]]):=⟨_,by conv=>lhs;reduce⟩
def GS:Got (lpM aF1.m 0):=⟨_,by conv=>lhs;cbv⟩
def F0:M:=GS.m
theorem aGV:UL F0 GS.m:=ul
def aDG:GF 53 [] .pass Tryz.f207 (kpL aL [] [[0,1,2,3],[0,1,2,3,8],[0,1,2,3,8],[0,1,2,3,8],[0,1,2,3,8,9],[0,1,2,3,8,9],[0,1,2,3,8,9]]):=⟨_,by conv=>lhs;reduce⟩
def HF:Got (lpM aDG.m 0):=⟨_,by conv=>lhs;cbv⟩
def SV:M:=HF.m
theorem aHp:UL SV HF.m:=ul
def GR:Got (lpM aDG.m 1):=⟨_,by conv=>lhs;cbv⟩
def QS:M:=GR.m
theorem aEa:UL QS GR.m:=ul
def O3:GF 53 [] .pass Tryz.f213:=⟨_,by conv=>lhs;cbv⟩
def HE:Got (lpM O3.m 0):=⟨_,by conv=>lhs;cbv⟩
def SX:M:=HE.m
theorem aE2:UL SX HE.m:=ul
def G4:Got (lpM O3.m 1):=⟨_,by conv=>lhs;cbv⟩
def RO:M:=G4.m
theorem aFj:UL RO G4.m:=ul
def E6:Got (lpM O3.m 2):=⟨_,by conv=>lhs;cbv⟩
def S9:M:=E6.m
theorem aEJ:UL S9 E6.m:=ul
def FQ:Got (lpM O3.m 3):=⟨_,by conv=>lhs;cbv⟩
def Q8:M:=FQ.m
theorem aHw:UL Q8 FQ.m:=ul
def aFg:GF 55 [.tmp 2] .shut Tryz.f215:=⟨_,by conv=>lhs;cbv⟩
def EQ:Got (lpM aFg.m 0):=⟨_,by conv=>lhs;cbv⟩
def P8:M:=EQ.m
theorem aET:UL P8 EQ.m:=ul
def aE8:GF 141 [.tmp 8] .pass Tryz.f218:=⟨_,by conv=>lhs;cbv⟩
def GY:Got (lpM aE8.m 0):=⟨_,by conv=>lhs;cbv⟩
def FC:M:=GY.m
theorem aEE:UL FC GY.m:=ul
def aJ9:GF 20 [] .pass Tryz.f232 (kpL aL [] [[0]]):=⟨_,by conv=>lhs;reduce⟩
def aQ8:GF 12 [] .pass Tryz.f238:=⟨_,by conv=>lhs;cbv⟩
def aOi:GF 17 [] .pass Tryz.f239 (kpL aL [] [[0]]):=⟨_,by conv=>lhs;reduce⟩
def aRO:GF 27 [] .pass Tryz.f240 (kpL aL [] [[0],[0],[0]]):=⟨_,by conv=>lhs;reduce⟩
def aNg:GF 11 [] .pass Tryz.f241:=⟨_,by conv=>lhs;cbv⟩
def aLg:GF 6 [] .pass Tryz.f242:=⟨_,by conv=>lhs;cbv⟩
def aUX:GF 52 [] .pass Tryz.f247:=⟨_,by conv=>lhs;cbv⟩
def aQl:GF 4 [.tmp 2] .pass Tryz.f251:=⟨_,by conv=>lhs;cbv⟩
def aVj:GF 47 [.tmp 2] .shut Tryz.f252:=⟨_,by conv=>lhs;cbv⟩
def aJu:GF 16 [.tmp 2] .shut Tryz.f254:=⟨_,by conv=>lhs;cbv⟩
def aKm:GF 67 [.cell 2 109] .pass Tryz.f258:=⟨_,by conv=>lhs;cbv⟩
def aSe:GF 18 [.tmp 1] .pass Tryz.f260 (kpL aL [] [[0],[0]]):=⟨_,by conv=>lhs;reduce⟩
def aLH:GF 15 [.tmp 4] .pass Tryz.f261:=⟨_,by conv=>lhs;cbv⟩
def aVU:GF 45 [.cell 4 85] .shut Tryz.f267 (kpL aL [] [[0,1],[1,2,4],[1,2,4,8,9],[1,2,4,8,9],[1,2,4,5,8,9],[1,2,4,5],[1,2,4,8,9],[1,2,4],[2,4]]):=⟨_,by conv=>lhs;reduce⟩
def aSm:GF 25 [.tmp 4,.tmp 5] .pass Tryz.f268:=⟨_,by conv=>lhs;cbv⟩
def aRy:GF 8 [] .pass Tryz.f278:=⟨_,by conv=>lhs;cbv⟩
def aNh:GF 21 [] .pass Tryz.f280 (kpL aL [] [[0]]):=⟨_,by conv=>lhs;reduce⟩
def aOl:GF 13 [] .pass Tryz.f281 (kpL aL [] [[0]]):=⟨_,by conv=>lhs;reduce⟩
def aQY:GF 11 [] .pass Tryz.f282:=⟨_,by conv=>lhs;cbv⟩
def aI2:GF 76 [.cell 6 90,.tmp 7] .shut Tryz.f286 (kpL aL [] [[0,1,2],[3,4,5,6],[4,6],[3,4,5,6],[4,6],[3,4,5,6],[3,4,5,6,8,9,10],[4,5,6,8,9],[4,6],[3,4,5,6,8],[4,5,6,8,9,11],[4,6],[4,5,6,8,9],[4,6,8,9],[4,6]]):=⟨_,by conv=>lhs;reduce⟩
def aK8:GF 29 [.cell 6 90] .shut Tryz.f287:=⟨_,by conv=>lhs;cbv⟩
def aYH:GF 38 [] .pass Tryz.f294 (kpL aL [] [[0,1,2,3],[0,1,2,3,10],[0,1,2,3,10],[0,1,2,3,10]]):=⟨_,by conv=>lhs;reduce⟩
def aGT:GF 23 [] .pass Tryz.f300 (kpL aL [] [[0,1],[0,1,3,4],[0,1,3],[0,1,3],[0,1,3],[0,1,22]]):=⟨_,by conv=>lhs;reduce⟩
def GJ:Got (lpM aGT.m 0):=⟨_,by conv=>lhs;cbv⟩
def y9:M:=GJ.m
theorem aHU:UL y9 GJ.m:=ul
def aAr:GF 30 [.tmp 2] .shut Tryz.f302:=⟨_,by conv=>lhs;cbv⟩
def aFY:GF 37 [.tmp 2] .shut Tryz.f304:=⟨_,by conv=>lhs;cbv⟩
def HA:Got (lpM aFY.m 0):=⟨_,by conv=>lhs;cbv⟩
def G9:M:=HA.m
theorem aGB:UL G9 HA.m:=ul
def aRD:GF 34 [] .pass Tryz.f305 (kpL aL [] [[0,1],[0,6,7,8],[0,6,7,8],[0,5,6,7,8],[0,5,6,7,8],[0,6,7,8]]):=⟨_,by conv=>lhs;reduce⟩
def aRc:GF 35 [.tmp 2] .shut Tryz.f329:=⟨_,by conv=>lhs;cbv⟩
def g9:GF 24 [.cell 4 44,.tmp 5] .shut Tryz.f9 (kpL aL [] [[0,1],[1,2,4],[2,4,6,7],[2,4,7]]):=⟨_,by conv=>lhs;reduce⟩
def g10:GF 84 [.cell 2 62,.tmp 3] .norm Tryz.f10 (kpL aL [] [[0],[1,2],[2],[1,2],[1,2,4],[1,2,4,15,16],[1,2,4,15,16],[1,2,4,15,16],[1,2,4,15,16],[1,2,4],[1,2,4,39,40],[1,2,4,39,40],[1,2,4,5,39,40],[1,2,4,5,6,39,40],[1,2,4,5,6,39,40,46,47,48],[1,2,4,5,6,39,40,46,47,48],[1,2,4,5,6,8,39,40,46,47,48],[1,2,4,5,6,8,39,40,46,47,48],[1,2,4,5,6,39,40,46,47,48],[1,2,4,5,6,39,40],[1,2,4,39,40],[2,4]]):=⟨_,by conv=>lhs;reduce⟩
def OU:Got (lpM g10.m 1):=⟨_,by conv=>lhs;cbv⟩
def aDq:M:=OU.m
theorem aN8:UL aDq OU.m:=ul
def PQ:Got (lpM g10.m 2):=⟨_,by conv=>lhs;cbv⟩
def aDJ:M:=PQ.m
theorem aN7:UL aDJ PQ.m:=ul
def g12:GF 16 [.tmp 4] .shut Tryz.f12:=⟨_,by conv=>lhs;cbv⟩
def g13:GF 53 [.cell 6 62,.tmp 7,.tmp 8] .norm Tryz.f13 (kpL aL [] [[0,1,2],[3,4,5,6],[6],[3,4,5,6],[6],[3,4,5,6],[5,6,9],[6,9,10,11],[6,11],[6,9,10],[6,9],[6],[6,9]]):=⟨_,by conv=>lhs;reduce⟩
def g14:GF 77 [.tmp 4] .shut Tryz.f14:=⟨_,by conv=>lhs;cbv⟩
def M9:Got (lpM g14.m 0):=⟨_,by conv=>lhs;cbv⟩
def NI:M:=M9.m
theorem aOV:UL NI M9.m:=ul
def PD:Got (lpM g14.m 1):=⟨_,by conv=>lhs;cbv⟩
def zP:M:=PD.m
theorem aS5:UL zP PD.m:=ul
def g22:GF 61 [.tmp 4] .shut Tryz.f22:=⟨_,by conv=>lhs;cbv⟩
def O5:Got (lpM g22.m 0):=⟨_,by conv=>lhs;cbv⟩
def OM:M:=O5.m
theorem aSC:UL OM O5.m:=ul
def N8:Got (lpM g22.m 1):=⟨_,by conv=>lhs;cbv⟩
def Y7:M:=N8.m
theorem aOF:UL Y7 N8.m:=ul
def NA:Got (lpM g22.m 2):=⟨_,by conv=>lhs;cbv⟩
def ZK:M:=NA.m
theorem aP7:UL ZK NA.m:=ul
def g26:GF 2 [.cell 0 109] .shut Tryz.f26:=⟨_,by conv=>lhs;cbv⟩
def g37:GF 26 [.tmp 4] .pass Tryz.f37:=⟨_,by conv=>lhs;cbv⟩
def g41:GF 30 [.tmp 2] .shut Tryz.f41:=⟨_,by conv=>lhs;cbv⟩
def g43:GF 10 [.cell 2 136,.tmp 3] .shut Tryz.f43:=⟨_,by conv=>lhs;cbv⟩
def g47:GF 23 [.tmp 4] .pass Tryz.f47:=⟨_,by conv=>lhs;cbv⟩
def g54:GF 57 [.cell 2 42,.cell 3 3,.cell 4 63] .shut Tryz.f54 (kpL aL [2,3,4,5,6] [[0],[0,2,3,4],[2,3,4],[0,2,3,4],[0,2,3,4,5],[0,2,3,4,5,6],[2,3,4,5,6,17,18],[2,3,4,5,6,7,18],[2,3,4,5,6,7,8],[2,3,4,5,7,8],[2,3,4,7],[5,8],[2,3,4,5,6,7,8],[2,3,4,7,9],[2,3,4,7,9],[2,3,4,5],[2,3,4],[2,3,4,5]]):=⟨_,by conv=>lhs;reduce⟩
def g57:GF 8 [.tmp 3] .shut Tryz.f57:=⟨_,by conv=>lhs;cbv⟩
def g58:GF 35 [.tmp 4] .shut Tryz.f58:=⟨_,by conv=>lhs;cbv⟩
def g65:GF 11 [.tmp 4] .shut Tryz.f65:=⟨_,by conv=>lhs;cbv⟩
def g66:GF 16 [.cell 4 54] .shut Tryz.f66:=⟨_,by conv=>lhs;cbv⟩
def g67:GF 46 [.tmp 4,.tmp 5] .pass Tryz.f67 (kpL aL [] [[0,1],[2,3],[2,6],[2,6,7],[2,6,7,28],[2,6,7],[2,6,7,28],[2,6,7],[2,6,7],[]]):=⟨_,by conv=>lhs;reduce⟩
def g70:GF 76 [.tmp 4,.tmp 5] .pass Tryz.f70 (kpL aL [] [[0,1],[0,3],[0,3,6],[],[0,3,6],[0,3,6,8],[],[0,3,6],[0,6,9,10,11]]):=⟨_,by conv=>lhs;reduce⟩
def g71:GF 144 [.tmp 4,.tmp 5] .pass Tryz.f71 (kpL aL [] [[0,1],[2,3],[2,6],[2,6,7],[2,6,7,8],[],[2,6,7,8],[],[2,6,7,8],[2,6,9,11],[11],[2,6,9],[2,6,9],[2,6,9,12],[2,9,12,13,14,15,16],[2,9,16,17],[2,6,9],[2,6,9],[2,6,9,18,19,20],[]]):=⟨_,by conv=>lhs;reduce⟩
def g72:GF 96 [] .pass Tryz.f72 (kpL aL [] [[0,1],[0,1,3],[0,1,3,20,21],[0,1,3,20,21],[0,1,3,5,20,21],[0,1,3,5,20,21,24,25],[0,1,3,5,20,21,24,25],[0,1,3,5,6,20,21,24,25],[0,1,3,5,20,21,24,25],[0,1,3,20,21],[0,1,3],[0,1,36,37],[0,1,36,37],[0,1,7,36,37],[0,1,7,36,37,46,47],[0,1,7,36,37,46,47],[0,1,7,8,36,37,46,47],[0,1,7,36,37,46,47],[0,1,36,37],[0,1],[0,1,9],[0,1,9,69,70,71],[0,1,9,69,70,71],[0,1,9,11,69,70,71],[0,1,9,12,69,70,71],[0,1,9,12,69,70,71],[0,1,9,12,69,70,71],[0,1,9,69,70,71]]):=⟨_,by conv=>lhs;reduce⟩
def MC:Got (lpM g72.m 1):=⟨_,by conv=>lhs;cbv⟩
def aCq:M:=MC.m
theorem aRv:UL aCq MC.m:=ul
def OH:Got (lpM g72.m 2):=⟨_,by conv=>lhs;cbv⟩
def aCt:M:=OH.m
theorem aMr:UL aCt OH.m:=ul
def PG:Got (lpM g72.m 3):=⟨_,by conv=>lhs;cbv⟩
def aDv:M:=PG.m
theorem aMK:UL aDv PG.m:=ul
def PB:Got (lpM g72.m 4):=⟨_,by conv=>lhs;cbv⟩
def XL:M:=PB.m
theorem aQc:UL XL PB.m:=ul
def g74:GF 9 [.tmp 4] .shut Tryz.f74:=⟨_,by conv=>lhs;cbv⟩
def g77:GF 8 [.tmp 2] .norm Tryz.f77:=⟨_,by conv=>lhs;cbv⟩
def g81:GF 10 [.tmp 4] .shut Tryz.f81:=⟨_,by conv=>lhs;cbv⟩
def g84:GF 13 [.tmp 5] .pass Tryz.f84:=⟨_,by conv=>lhs;cbv⟩
def g86:GF 9 [.tmp 4] .shut Tryz.f86:=⟨_,by conv=>lhs;cbv⟩
def g93:GF 63 [.tmp 6] .shut Tryz.f93 (kpL aL [] [[0,1,2],[2,3,4],[2,3,4,7],[2,3,4,7,17,18,19],[2,3,4,7,17,18,19],[2,3,4,7,9,17,18,19],[2,3,4,7,10,11,17,18,19],[2,3,10],[2,3,4,7,17,18,19],[2,3,4,7]]):=⟨_,by conv=>lhs;reduce⟩
def MT:Got (lpM g93.m 0):=⟨_,by conv=>lhs;cbv⟩
def aB3:M:=MT.m
theorem aNK:UL aB3 MT.m:=ul
def g98:GF 8 [.tmp 0] .pass Tryz.f98:=⟨_,by conv=>lhs;cbv⟩
def aG2:GF 32 [.tmp 2] .shut Tryz.f100:=⟨_,by conv=>lhs;cbv⟩
def F9:Got (lpM aG2.m 0):=⟨_,by conv=>lhs;cbv⟩
def EB:M:=F9.m
theorem aEm:UL EB F9.m:=ul
def aU5:GF 22 [.tmp 2] .shut Tryz.f103 (kpL aL [3] [[0],[1,2],[],[1,2],[1,2,3],[3,10,11],[3,4,11],[3,4,5],[3,4],[3]]):=⟨_,by conv=>lhs;reduce⟩
def aKA:GF 9 [.tmp 2] .shut Tryz.f112:=⟨_,by conv=>lhs;cbv⟩
def aKV:GF 44 [.cell 6 95] .norm Tryz.f114:=⟨_,by conv=>lhs;cbv⟩
def aOL:GF 40 [.tmp 8,.tmp 9] .pass Tryz.f115 (kpL aL [] [[0,1,2,3],[4,5,6,7],[],[4,5,6,7],[4,5,7,10,11],[11],[4,5,7,10]]):=⟨_,by conv=>lhs;reduce⟩
def TL:GF 123 [.cell 8 90,.tmp 9,.tmp 10,.tmp 11] .shut Tryz.f118:=⟨_,by conv=>lhs;cbv⟩
def aLm:GF 52 [.cell 10 90,.tmp 11,.tmp 12] .shut Tryz.f120:=⟨_,by conv=>lhs;cbv⟩
def aFR:GF 19 [.tmp 4] .shut Tryz.f136:=⟨_,by conv=>lhs;cbv⟩
def ET:Got (lpM aFR.m 0):=⟨_,by conv=>lhs;cbv⟩
def QT:M:=ET.m
theorem aD4:UL QT ET.m:=ul
def aQP:GF 6 [.tmp 2] .shut Tryz.f139:=⟨_,by conv=>lhs;cbv⟩
def aNa:GF 21 [.tmp 6] .shut Tryz.f141:=⟨_,by conv=>lhs;cbv⟩
def aXp:GF 22 [] .pass Tryz.f145 (kpL aL [] [[0,1,2,3,4]]):=⟨_,by conv=>lhs;reduce⟩
def aWA:GF 13 [.cell 5 36,.tmp 6] .pass Tryz.f147 (kpL aL [] [[0,1,2],[1,2,5]]):=⟨_,by conv=>lhs;reduce⟩
def aUj:GF 33 [.cell 4 36,.tmp 5] .pass Tryz.f149 (kpL aL [] [[0,1],[1,2,4],[1,2,4,6,7],[4],[1,2,4,6],[4,6,7,8]]):=⟨_,by conv=>lhs;reduce⟩
def aTj:GF 5 [.tmp 2] .shut Tryz.f152:=⟨_,by conv=>lhs;cbv⟩
def aEn:GF 13 [.tmp 4,.tmp 5,.tmp 6] .shut Tryz.f155:=⟨_,by conv=>lhs;cbv⟩
def aN6:GF 4 [.tmp 2] .pass Tryz.f159:=⟨_,by conv=>lhs;cbv⟩
def aMQ:GF 6 [.tmp 2] .pass Tryz.f167:=⟨_,by conv=>lhs;cbv⟩
def aVH:GF 2 [.cell 0 226] .shut Tryz.f175:=⟨_,by conv=>lhs;cbv⟩
def aNv:GF 36 [.tmp 2] .pass Tryz.f179 (kpL aL [] [[0],[0],[0],[]]):=⟨_,by conv=>lhs;reduce⟩
def aGk:GF 36 [.cell 6 36,.tmp 7] .pass Tryz.f189:=⟨_,by conv=>lhs;cbv⟩
def aMY:GF 45 [.cell 4 58,.tmp 5,.tmp 6] .shut Tryz.f200:=⟨_,by conv=>lhs;cbv⟩
def aLZ:GF 20 [.cell 4 171] .shut Tryz.f205 (kpL aL [] [[0,1],[1,2,4],[2,4],[2,4]]):=⟨_,by conv=>lhs;reduce⟩
def aGQ:GF 25 [] .pass Tryz.f206 (kpL aL [] [[0,1,2,3],[0,2,3,8,9],[0,2,3,8,9],[0,2,3,5,8,9],[0,2,3,8,9]]):=⟨_,by conv=>lhs;reduce⟩
def EA:Got (lpM aGQ.m 0):=⟨_,by conv=>lhs;cbv⟩
def pI:M:=EA.m
theorem aEv:UL pI EA.m:=ul
def aYl:GF 29 [.tmp 4,.tmp 5] .shut Tryz.f210:=⟨_,by conv=>lhs;cbv⟩
def aWU:GF 8 [.tmp 6] .pass Tryz.f211:=⟨_,by conv=>lhs;cbv⟩
def aXS:GF 7 [.tmp 0] .shut Tryz.f219:=⟨_,by conv=>lhs;cbv⟩
def aI7:GF 21 [] .pass Tryz.f220 (kpL aL [] [[0,1],[0,1]]):=⟨_,by conv=>lhs;reduce⟩
def aNi:GF 23 [.tmp 6] .shut Tryz.f221:=⟨_,by conv=>lhs;cbv⟩
def aJx:GF 23 [.tmp 6] .shut Tryz.f222:=⟨_,by conv=>lhs;cbv⟩
def aTN:GF 2 [.cell 0 369] .shut Tryz.f225:=⟨_,by conv=>lhs;cbv⟩
def aMD:GF 30 [.tmp 4] .shut Tryz.f228:=⟨_,by conv=>lhs;cbv⟩
def aQ5:GF 25 [.tmp 4] .shut Tryz.f229 (kpL aL [] [[0,1],[1,2],[1,5,6],[],[1,5]]):=⟨_,by conv=>lhs;reduce⟩
def aO5:GF 20 [] .pass Tryz.f231 (kpL aL [] [[0]]):=⟨_,by conv=>lhs;reduce⟩
def aSJ:GF 26 [] .pass Tryz.f234 (kpL aL [] [[0],[0]]):=⟨_,by conv=>lhs;reduce⟩
def aQR:GF 11 [] .pass Tryz.f237:=⟨_,by conv=>lhs;cbv⟩
def aG9:GF 8 [.tmp 4] .shut Tryz.f249:=⟨_,by conv=>lhs;cbv⟩
def aFu:GF 19 [.tmp 4] .shut Tryz.f255:=⟨_,by conv=>lhs;cbv⟩
def FW:Got (lpM aFu.m 0):=⟨_,by conv=>lhs;cbv⟩
def QD:M:=FW.m
theorem aEr:UL QD FW.m:=ul
def aPU:GF 16 [.tmp 1] .pass Tryz.f256:=⟨_,by conv=>lhs;cbv⟩
def aMj:GF 55 [.tmp 4,.tmp 5] .pass Tryz.f271:=⟨_,by conv=>lhs;cbv⟩
def aK2:GF 26 [.tmp 4,.tmp 5] .pass Tryz.f272:=⟨_,by conv=>lhs;cbv⟩
def aLO:GF 35 [.tmp 2] .shut Tryz.f274:=⟨_,by conv=>lhs;cbv⟩
def aLV:GF 8 [] .pass Tryz.f283:=⟨_,by conv=>lhs;cbv⟩
def aGG:GF 57 [.cell 2 349,.tmp 3] .pass Tryz.f301 (kpL aL [] [[0],[0,2],[0,2],[0,2],[0,2],[0,2],[0,2,4],[0,2,4,5],[0,2,4,5],[0,2,4],[2,4],[0,2,5],[2]]):=⟨_,by conv=>lhs;reduce⟩
def F7:Got (lpM aGG.m 0):=⟨_,by conv=>lhs;cbv⟩
def SC:M:=F7.m
theorem aGe:UL SC F7.m:=ul
def aUO:GF 22 [] .pass Tryz.f303 (kpL aL [] [[0,1,2],[0,1,2],[0,2]]):=⟨_,by conv=>lhs;reduce⟩
def aOO:GF 28 [.cell 4 85] .shut Tryz.f308 (kpL aL [] [[0,1],[1,2,4],[2,4],[1,2,4]]):=⟨_,by conv=>lhs;reduce⟩
def aPo:GF 28 [.cell 4 85] .shut Tryz.f309 (kpL aL [] [[0,1],[1,2,4],[2,4],[1,2,4]]):=⟨_,by conv=>lhs;reduce⟩
def aRj:GF 18 [.tmp 2] .pass Tryz.f315 (kpL aL [] [[0],[0]]):=⟨_,by conv=>lhs;reduce⟩
def aSj:GF 13 [.tmp 2] .pass Tryz.f317 (kpL aL [] [[0],[0]]):=⟨_,by conv=>lhs;reduce⟩
def aPE:GF 4 [.tmp 2] .pass Tryz.f320:=⟨_,by conv=>lhs;cbv⟩
def aOH:GF 46 [.tmp 2] .pass Tryz.f324 (kpL aL [] [[0],[0],[0,3],[0,3,4],[3],[3]]):=⟨_,by conv=>lhs;reduce⟩
def aQn:List (Nat×List Value):=[(7,[.int .u8 0,.int .u8 1,.int .u8 56,.int .u8 2,.int .u8 57,.int .u8 49,.int .u8 28,.int .u8 3,.int .u8 61,.int .u8 58,.int .u8 42,.int .u8 50,.int .u8 38,.int .u8 29,.int .u8 17,.int .u8 4,.int .u8 62,.int .u8 47,.int .u8 59,.int .u8 36,.int .u8 45,.int .u8 43,.int .u8 51,.int .u8 22,.int .u8 53,.int .u8 39,.int .u8 33,.int .u8 30,.int .u8 24,.int .u8 18,.int .u8 12,.int .u8 5,.int .u8 63,.int .u8 55,.int .u8 48,.int .u8 27,.int .u8 60,.int .u8 41,.int .u8 37,.int .u8 16,.int .u8 46,.int .u8 35,.int .u8 44,.int .u8 21,.int .u8 52,.int .u8 32,.int .u8 23,.int .u8 11,.int .u8 54,.int .u8 26,.int .u8 40,.int .u8 15,.int .u8 34,.int .u8 20,.int .u8 31,.int .u8 10,.int .u8 25,.int .u8 14,.int .u8 19,.int .u8 9,.int .u8 13,.int .u8 8,.int .u8 7,.int .u8 6]),(0,[.int .i64 4,.int .i64 2,.int .i64 4,.int .i64 4,.int .i64 4]),(4,[.int .u8 0,.int .u8 35,.int .u8 38,.int .u8 29,.int .u8 7,.int .u8 7,.int .u8 15,.int .u8 32,.int .u8 92]),(2,[.int .u8 0,.int .u8 1,.int .u8 1,.int .u8 1,.int .u8 3,.int .u8 3,.int .u8 2,.int .u8 2,.int .u8 2,.int .u8 2,.int .u8 3,.int .u8 3,.int .u8 3]),(1,[.string ⟨#[]⟩,.string ⟨#[]⟩,.string ⟨#[]⟩,.string ⟨#[]⟩,.string ⟨#[]⟩,.string ⟨#[]⟩,.string ⟨#[]⟩,.string ⟨#[]⟩,.string ⟨#[]⟩,.string ⟨#[]⟩,.string ⟨#[]⟩,.string ⟨#[]⟩,.string ⟨#[]⟩,.string ⟨#[]⟩,.string ⟨#[]⟩,.string ⟨#[73]⟩,.string ⟨#[83]⟩,.string ⟨#[69]⟩,.string ⟨#[79]⟩,.string ⟨#[77]⟩,.string ⟨#[73,83]⟩,.string ⟨#[73,77]⟩,.string ⟨#[83,77]⟩,.string ⟨#[79,77]⟩,.string ⟨#[73,65]⟩,.string ⟨#[77,73]⟩,.string ⟨#[73,73]⟩,.string ⟨#[]⟩,.string ⟨#[]⟩,.string ⟨#[]⟩,.string ⟨#[108,111,97,100]⟩,.string ⟨#[115,116,111,114,101]⟩,.string ⟨#[101,118,105,99,116]⟩,.string ⟨#[102,119,100,115]⟩,.string ⟨#[102,119,100,109]⟩,.string ⟨#[105,110,118]⟩,.string ⟨#[112,117,116]⟩,.string ⟨#[118,97,108,117,101]⟩,.string ⟨#[97,108,111,110,101]⟩,.string ⟨#[109,111,114,101]⟩,.string ⟨#[103,114,97,110,116]⟩,.string ⟨#[115,111,111,110]⟩,.string ⟨#[97,99,107]⟩,.string ⟨#[108,97,115,116]⟩,.string ⟨#[]⟩,.string ⟨#[116,97,107,101]⟩,.string ⟨#[97,115,107]⟩,.string ⟨#[97,115,107,109]⟩,.string ⟨#[112,117,116]⟩,.string ⟨#[103,105,118,101]⟩,.string ⟨#[99,111,112,121]⟩,.string ⟨#[105,110,118]⟩,.string ⟨#[100,111,110,101]⟩,.string ⟨#[100,111]⟩,.string ⟨#[100,114,111,112]⟩,.string ⟨#[]⟩,.string ⟨#[]⟩,.string ⟨#[]⟩,.string ⟨#[]⟩,.string ⟨#[]⟩,.string ⟨#[85,110]⟩,.string ⟨#[83,104]⟩,.string ⟨#[69,120]⟩,.string ⟨#[79,119]⟩,.string ⟨#[]⟩,.string ⟨#[]⟩,.string ⟨#[]⟩,.string ⟨#[]⟩,.string ⟨#[]⟩,.string ⟨#[]⟩,.string ⟨#[]⟩,.string ⟨#[]⟩,.string ⟨#[]⟩,.string ⟨#[]⟩,.string ⟨#[]⟩,.string ⟨#[103,101,116,115]⟩,.string ⟨#[103,101,116,109]⟩,.string ⟨#[117,112]⟩,.string ⟨#[98,97,99,107]⟩,.string ⟨#[115,116,97,108,101]⟩,.string ⟨#[]⟩,.string ⟨#[]⟩,.string ⟨#[]⟩,.string ⟨#[]⟩,.string ⟨#[]⟩,.string ⟨#[]⟩,.string ⟨#[]⟩,.string ⟨#[]⟩,.string ⟨#[]⟩,.string ⟨#[]⟩,.string ⟨#[105,110,118,115]⟩,.string ⟨#[109,101,109]⟩,.string ⟨#[97,108,111,110,101]⟩,.string ⟨#[102,119,100,115]⟩,.string ⟨#[102,119,100,109]⟩,.string ⟨#[103,114,97,110,116]⟩,.string ⟨#[119,114,105,116,101]⟩,.string ⟨#[98,97,99,107]⟩,.string ⟨#[99,108,101,97,114]⟩,.string ⟨#[110,111,116,101]⟩,.string ⟨#[98,111,116,104]⟩,.string ⟨#[111,119,110]⟩,.string ⟨#[102,114,101,101]⟩,.string ⟨#[98,117,115,121]⟩,.string ⟨#[116,119,105,99,101]⟩])]
def aMB:BT Ty:=(.node 181 Y2.t (.node 60 VH.t (.node 37 aSt (.node 23 aSw.t (.node 9 th9.t (.node 4 th4.t (.node 3 th3.t (.node 1 th1.t .nil .nil) .nil) (.node 5 th5.t .nil .nil)) (.node 21 aQX.t (.node 20 aRf.t .nil .nil) (.node 22 aLb.t .nil .nil))) (.node 31 aMC.t (.node 27 aNw.t (.node 25 aMU.t (.node 24 aPH.t .nil .nil) .nil) (.node 29 aK5.t .nil .nil)) (.node 34 aMb.t (.node 33 aKl.t .nil .nil) (.node 36 aSZ.t .nil .nil)))) (.node 50 aQB.t (.node 44 aQb (.node 40 aLr (.node 39 aJ5.t (.node 38 aMA .nil .nil) .nil) (.node 42 aHx .nil .nil)) (.node 46 aKK.t (.node 45 aP6.t .nil .nil) (.node 49 aSk.t .nil .nil))) (.node 55 aLs.t (.node 52 aNx.t (.node 51 aSq.t .nil .nil) (.node 54 aKb.t .nil .nil)) (.node 58 aNN.t (.node 56 aSv.t .nil .nil) (.node 59 aJi .nil .nil))))) (.node 101 aC5.t (.node 82 aQt (.node 73 YG.t (.node 66 aMf.t (.node 63 aNI.t (.node 62 aSo.t .nil .nil) .nil) (.node 69 aPW.t .nil .nil)) (.node 79 aPM.t (.node 75 aOo.t .nil .nil) (.node 81 aSA.t .nil .nil))) (.node 90 aI5 (.node 86 aPR.t (.node 85 aSc.t (.node 83 aR1 .nil .nil) .nil) (.node 88 aRe.t .nil .nil)) (.node 93 UF.t (.node 92 aRC.t .nil .nil) (.node 95 aRq.t .nil .nil)))) (.node 136 WL.t (.node 122 aCA.t (.node 109 aA6.t (.node 107 aBr.t (.node 104 aCS.t .nil .nil) .nil) (.node 111 W5.t .nil .nil)) (.node 130 aBs.t (.node 128 aBQ.t .nil .nil) (.node 132 aBy.t .nil .nil))) (.node 157 YA.t (.node 149 aDM.t (.node 145 aDc.t .nil .nil) (.node 151 W9 .nil .nil)) (.node 171 aDQ.t (.node 159 Z4.t .nil .nil) (.node 178 JG.t .nil .nil)))))) (.node 337 aBG.t (.node 267 aCX.t (.node 213 aDn.t (.node 199 aAJ.t (.node 187 W3.t (.node 186 ZT.t (.node 182 aDV.t .nil .nil) .nil) (.node 193 Z6.t .nil .nil)) (.node 203 ZX.t (.node 202 XY.t .nil .nil) (.node 210 WO.t .nil .nil))) (.node 226 aDT.t (.node 220 Y5.t (.node 218 Y1.t (.node 216 aAX.t .nil .nil) .nil) (.node 224 aBw.t .nil .nil)) (.node 230 aAE.t (.node 228 aCU.t .nil .nil) (.node 233 aAu.t .nil .nil)))) (.node 302 Z7.t (.node 278 WM.t (.node 272 Y6.t (.node 270 aCO.t (.node 268 aCI.t .nil .nil) .nil) (.node 277 aDa.t .nil .nil)) (.node 293 aB4.t (.node 292 aBq.t .nil .nil) (.node 299 aBM.t .nil .nil))) (.node 316 Z9.t (.node 305 aC1.t (.node 303 aBx.t .nil .nil) (.node 306 aAz.t .nil .nil)) (.node 329 aBc.t (.node 323 XS.t .nil .nil) (.node 331 WR.t .nil .nil))))) (.node 374 aCY.t (.node 357 Z0.t (.node 349 aAc.t (.node 344 aAj.t (.node 342 aDu.t (.node 340 W4.t .nil .nil) .nil) (.node 347 XK.t .nil .nil)) (.node 353 aBi.t (.node 352 aDF.t .nil .nil) (.node 356 aC9.t .nil .nil))) (.node 364 aAe.t (.node 360 aAI.t (.node 358 aCx.t .nil .nil) (.node 362 aDB.t .nil .nil)) (.node 369 aCW.t (.node 368 aBE.t .nil .nil) (.node 371 aDP.t .nil .nil)))) (.node 403 YX.t (.node 383 aBV.t (.node 377 aBA.t (.node 376 aDw.t (.node 375 aDN.t .nil .nil) .nil) (.node 378 aCn .nil .nil)) (.node 390 W2.t (.node 385 aB5.t .nil .nil) (.node 394 aDb.t .nil .nil))) (.node 419 X7.t (.node 411 aBP.t (.node 406 aAn.t .nil .nil) (.node 417 aAp.t .nil .nil)) (.node 435 aCa.t (.node 422 aBH.t .nil .nil) (.node 438 XA .nil .nil)))))))
def aKU:BT MFn:=(.node 167 aMQ.fn (.node 90 g90.fn (.node 51 g51.fn (.node 31 g31.fn (.node 18 g18.fn (.node 11 g11.fn (.node 9 g9.fn (.node 8 g8.fn (.node 7 g7.fn .nil .nil) .nil) (.node 10 g10.fn .nil .nil)) (.node 14 g14.fn (.node 13 g13.fn (.node 12 g12.fn .nil .nil) .nil) (.node 17 g17.fn .nil .nil))) (.node 26 g26.fn (.node 24 g24.fn (.node 23 g23.fn (.node 22 g22.fn .nil .nil) .nil) (.node 25 g25.fn .nil .nil)) (.node 29 g29.fn (.node 28 g28.fn (.node 27 g27.fn .nil .nil) .nil) (.node 30 g30.fn .nil .nil)))) (.node 41 g41.fn (.node 36 g36.fn (.node 34 g34.fn (.node 33 g33.fn (.node 32 g32.fn .nil .nil) .nil) (.node 35 g35.fn .nil .nil)) (.node 39 g39.fn (.node 38 g38.fn (.node 37 g37.fn .nil .nil) .nil) (.node 40 g40.fn .nil .nil))) (.node 47 g47.fn (.node 45 g45.fn (.node 44 g44.fn (.node 43 g43.fn .nil .nil) .nil) (.node 46 g46.fn .nil .nil)) (.node 49 g49.fn (.node 48 g48.fn .nil .nil) (.node 50 g50.fn .nil .nil))))) (.node 71 g71.fn (.node 61 g61.fn (.node 56 g56.fn (.node 54 g54.fn (.node 53 g53.fn (.node 52 g52.fn .nil .nil) .nil) (.node 55 g55.fn .nil .nil)) (.node 59 g59.fn (.node 58 g58.fn (.node 57 g57.fn .nil .nil) .nil) (.node 60 g60.fn .nil .nil))) (.node 66 g66.fn (.node 64 g64.fn (.node 63 g63.fn (.node 62 g62.fn .nil .nil) .nil) (.node 65 g65.fn .nil .nil)) (.node 69 g69.fn (.node 68 g68.fn (.node 67 g67.fn .nil .nil) .nil) (.node 70 g70.fn .nil .nil)))) (.node 81 g81.fn (.node 76 g76.fn (.node 74 g74.fn (.node 73 g73.fn (.node 72 g72.fn .nil .nil) .nil) (.node 75 g75.fn .nil .nil)) (.node 79 g79.fn (.node 78 g78.fn (.node 77 g77.fn .nil .nil) .nil) (.node 80 g80.fn .nil .nil))) (.node 86 g86.fn (.node 84 g84.fn (.node 83 g83.fn (.node 82 g82.fn .nil .nil) .nil) (.node 85 g85.fn .nil .nil)) (.node 88 g88.fn (.node 87 g87.fn .nil .nil) (.node 89 g89.fn .nil .nil)))))) (.node 129 aM2.fn (.node 110 aPK.fn (.node 100 aG2.fn (.node 95 g95.fn (.node 93 g93.fn (.node 92 g92.fn (.node 91 g91.fn .nil .nil) .nil) (.node 94 g94.fn .nil .nil)) (.node 98 g98.fn (.node 97 g97.fn (.node 96 g96.fn .nil .nil) .nil) (.node 99 g99.fn .nil .nil))) (.node 105 aPQ.fn (.node 103 aU5.fn (.node 102 aTW.fn (.node 101 WF.fn .nil .nil) .nil) (.node 104 Z8.fn .nil .nil)) (.node 108 aLh.fn (.node 107 aLu.fn (.node 106 aKc.fn .nil .nil) .nil) (.node 109 aPb.fn .nil .nil)))) (.node 120 aLm.fn (.node 115 aOL.fn (.node 113 aLt.fn (.node 112 aKA.fn (.node 111 aN3.fn .nil .nil) .nil) (.node 114 aKV.fn .nil .nil)) (.node 118 TL.fn (.node 117 aKa.fn (.node 116 aSy.fn .nil .nil) .nil) (.node 119 aN1.fn .nil .nil))) (.node 125 aJ4.fn (.node 123 aO7.fn (.node 122 aOx.fn (.node 121 aHs.fn .nil .nil) .nil) (.node 124 aNy.fn .nil .nil)) (.node 127 aKY.fn (.node 126 aN0.fn .nil .nil) (.node 128 aRE.fn .nil .nil))))) (.node 148 aKO.fn (.node 139 aQP.fn (.node 134 aMH.fn (.node 132 aFU.fn (.node 131 aQf.fn (.node 130 aNs.fn .nil .nil) .nil) (.node 133 aNP.fn .nil .nil)) (.node 137 aAT.fn (.node 136 aFR.fn (.node 135 aQK.fn .nil .nil) .nil) (.node 138 aN2.fn .nil .nil))) (.node 144 aYz.fn (.node 142 aV0.fn (.node 141 aNa.fn (.node 140 aPB.fn .nil .nil) .nil) (.node 143 aUF.fn .nil .nil)) (.node 146 aXh.fn (.node 145 aXp.fn .nil .nil) (.node 147 aWA.fn .nil .nil)))) (.node 158 aM7.fn (.node 153 aUf.fn (.node 151 aWo.fn (.node 150 aMZ.fn (.node 149 aUj.fn .nil .nil) .nil) (.node 152 aTj.fn .nil .nil)) (.node 156 aVa.fn (.node 155 aEn.fn (.node 154 aVt.fn .nil .nil) .nil) (.node 157 aW0.fn .nil .nil))) (.node 163 aRW.fn (.node 161 aSK.fn (.node 160 aGJ.fn (.node 159 aN6.fn .nil .nil) .nil) (.node 162 aNb.fn .nil .nil)) (.node 165 aLR.fn (.node 164 aHl.fn .nil .nil) (.node 166 aMy.fn .nil .nil))))))) (.node 246 aXB.fn (.node 206 aGQ.fn (.node 187 aMx.fn (.node 177 aOt.fn (.node 172 aKS.fn (.node 170 aL2.fn (.node 169 YR.fn (.node 168 aQi.fn .nil .nil) .nil) (.node 171 aPf.fn .nil .nil)) (.node 175 aVH.fn (.node 174 aX9.fn (.node 173 NS.fn .nil .nil) .nil) (.node 176 aVd.fn .nil .nil))) (.node 182 aOZ.fn (.node 180 aLF.fn (.node 179 aNv.fn (.node 178 aR8.fn .nil .nil) .nil) (.node 181 aJp.fn .nil .nil)) (.node 185 aSa.fn (.node 184 aJI.fn (.node 183 aMX.fn .nil .nil) .nil) (.node 186 aJA.fn .nil .nil)))) (.node 197 aQG.fn (.node 192 aA3.fn (.node 190 aSf.fn (.node 189 aGk.fn (.node 188 aKN.fn .nil .nil) .nil) (.node 191 aQ6.fn .nil .nil)) (.node 195 aFf.fn (.node 194 aMi.fn (.node 193 aG7.fn .nil .nil) .nil) (.node 196 aRP.fn .nil .nil))) (.node 202 aNA.fn (.node 200 aMY.fn (.node 199 aQx.fn (.node 198 aKo.fn .nil .nil) .nil) (.node 201 aOb.fn .nil .nil)) (.node 204 aF1.fn (.node 203 aER.fn .nil .nil) (.node 205 aLZ.fn .nil .nil))))) (.node 227 aRT.fn (.node 216 aKP.fn (.node 211 aWU.fn (.node 209 aWn.fn (.node 208 aWe.fn (.node 207 aDG.fn .nil .nil) .nil) (.node 210 aYl.fn .nil .nil)) (.node 214 YH.fn (.node 213 O3.fn (.node 212 aD6.fn .nil .nil) .nil) (.node 215 aFg.fn .nil .nil))) (.node 221 aNi.fn (.node 219 aXS.fn (.node 218 aE8.fn (.node 217 aJq.fn .nil .nil) .nil) (.node 220 aI7.fn .nil .nil)) (.node 225 aTN.fn (.node 224 aRA.fn (.node 222 aJx.fn .nil .nil) .nil) (.node 226 aO9.fn .nil .nil)))) (.node 237 aQR.fn (.node 232 aJ9.fn (.node 230 aQQ.fn (.node 229 aQ5.fn (.node 228 aMD.fn .nil .nil) .nil) (.node 231 aO5.fn .nil .nil)) (.node 235 aNE.fn (.node 234 aSJ.fn (.node 233 aKI.fn .nil .nil) .nil) (.node 236 aPc.fn .nil .nil))) (.node 242 aLg.fn (.node 240 aRO.fn (.node 239 aOi.fn (.node 238 aQ8.fn .nil .nil) .nil) (.node 241 aNg.fn .nil .nil)) (.node 244 aL1.fn (.node 243 aJw.fn .nil .nil) (.node 245 aNo.fn .nil .nil)))))) (.node 286 aI2.fn (.node 267 aVU.fn (.node 257 aMa.fn (.node 252 aVj.fn (.node 250 aHb.fn (.node 249 aG9.fn (.node 247 aUX.fn .nil .nil) .nil) (.node 251 aQl.fn .nil .nil)) (.node 255 aFu.fn (.node 254 aJu.fn (.node 253 aLd.fn .nil .nil) .nil) (.node 256 aPU.fn .nil .nil))) (.node 262 aP9.fn (.node 260 aSe.fn (.node 259 aP4.fn (.node 258 aKm.fn .nil .nil) .nil) (.node 261 aLH.fn .nil .nil)) (.node 265 aLT.fn (.node 264 aSL.fn (.node 263 aSb.fn .nil .nil) .nil) (.node 266 aR2.fn .nil .nil)))) (.node 277 aOX.fn (.node 272 aK2.fn (.node 270 aWd.fn (.node 269 aXF.fn (.node 268 aSm.fn .nil .nil) .nil) (.node 271 aMj.fn .nil .nil)) (.node 275 aKB.fn (.node 274 aLO.fn (.node 273 aUH.fn .nil .nil) .nil) (.node 276 aLo.fn .nil .nil))) (.node 282 aQY.fn (.node 280 aNh.fn (.node 279 aKJ.fn (.node 278 aRy.fn .nil .nil) .nil) (.node 281 aOl.fn .nil .nil)) (.node 284 aJQ.fn (.node 283 aLV.fn .nil .nil) (.node 285 aOa.fn .nil .nil))))) (.node 309 aPo.fn (.node 300 aGT.fn (.node 291 aOm.fn (.node 289 aFJ.fn (.node 288 aKi.fn (.node 287 aK8.fn .nil .nil) .nil) (.node 290 aRl.fn .nil .nil)) (.node 294 aYH.fn (.node 293 aKD.fn (.node 292 aRH.fn .nil .nil) .nil) (.node 296 aEc.fn .nil .nil))) (.node 305 aRD.fn (.node 303 aUO.fn (.node 302 aAr.fn (.node 301 aGG.fn .nil .nil) .nil) (.node 304 aFY.fn .nil .nil)) (.node 307 aJb.fn (.node 306 aMJ.fn .nil .nil) (.node 308 aOO.fn .nil .nil)))) (.node 321 aJm.fn (.node 316 aLj.fn (.node 314 aCj.fn (.node 311 aTx.fn (.node 310 aNz.fn .nil .nil) .nil) (.node 315 aRj.fn .nil .nil)) (.node 319 aX4.fn (.node 318 aCi.fn (.node 317 aSj.fn .nil .nil) .nil) (.node 320 aPE.fn .nil .nil))) (.node 326 aEj.fn (.node 324 aOH.fn (.node 323 aSd.fn (.node 322 aP3.fn .nil .nil) .nil) (.node 325 aHg.fn .nil .nil)) (.node 328 aYw.fn (.node 327 aLz.fn .nil .nil) (.node 329 aRc.fn .nil .nil))))))))
def Cz:Ctx:=⟨⟨aMB.get,⟨yL aQn,ZF,aTg⟩⟩,aKU.get,aDR,Q7⟩
theorem EN:jI Tryz.prog Cz:=aBk (by kernel_rfl) (by repeat' first|exact⟨⟩|exact aMt.h _|exact fk _ (by kernel_rfl)|(show _=_;kernel_rfl)|refine⟨?_,?_,?_⟩) (by repeat' first|exact⟨⟩|exact aMt.h _|exact fk _ (by kernel_rfl)|(show _=_;kernel_rfl)|refine⟨?_,?_,?_⟩) aB1 (ZJ)
theorem aDW:Cz.B 77=some g77.fn:=by rfl
theorem aBo:Cz.B 79=some g79.fn:=by rfl
theorem aIo:Cz.T 60=some VH.t:=by rfl
theorem aTG:Cz.T 73=some YG.t:=by rfl
theorem aIT:Cz.T 93=some UF.t:=by rfl
theorem aPV:Cz.T 178=some JG.t:=by rfl
def tB(f:FuncId):Bool:=Nat.beq f 77||Nat.beq f 79
def BM(f:FuncId)(zs:List A):Option A:=bif tB f then(match zs with|[.sl 0 []]=>some (.sl 0 [])|_=>none)else aDR f zs
theorem O9(f:FuncId)(hf:tB f=true)(c:Nat):EvQ Cz f [.v (.slice none 0 c)] (.sl 0 []):=by simp only[tB,dr]at hf;rcases hf with h|h;{obtain rfl:=ax h;refine evF aDW ?_;simp(disch:=omega)only[go_sem,simprocAttr,aIT,UF,vC,yJ,g77]};{obtain rfl:=ax h;refine evF aBo ?_;simp(disch:=omega)only[go_sem,simprocAttr,aIo,VH,vC,yJ,g79]}
theorem L8(f:FuncId)(hf:tB f=true)(a:Addr)(c:Nat):EvQ Cz f [.v (.slice (some a) 0 c)] (.sl 0 []):=by simp only[tB,dr]at hf;rcases hf with h|h;{obtain rfl:=ax h;refine evF aDW ?_;simp(disch:=omega)only[go_sem,simprocAttr,aIT,UF,aPV,JG,vC,yJ,g77]};{obtain rfl:=ax h;refine evF aBo ?_;simp(disch:=omega)only[go_sem,simprocAttr,aIo,VH,aTG,YG,vC,yJ,g79]}
theorem aB7:QOk Cz.T Tryz.prog BM:=by intro f zs r h;unfold BM at h;cases hb:tB f with|false=>rw[hb,cf]at h;exact EN.ext f zs r h|true=>rw[hb,cc]at h;split at h;{simp only[ab]at h;subst h;(have hent:wM Tryz.prog f:=by simp only[tB,dr]at hb;rcases hb with h|h;{obtain rfl:=ax h;exact EN.enters aDW};{obtain rfl:=ax h;exact EN.enters aBo});refine .inr ⟨hent,fun own w ys ho hgl hr=>?_⟩;(obtain⟨y,ys',rfl,hy,hn⟩:∃y ys',ys=y::ys'/\R [] own w (.sl 0 []) y/\RL [] own w [] ys':=by rw[RL]at hr;obtain⟨y,ys',e,h1,h2⟩:=hr;exact⟨y,ys',e,h1,h2⟩);(have key:∀a c,y=.slice a 0 c->EvQ Cz f [.v (.slice a 0 c)] (.sl 0 []):=fun a c _=>by cases a with|none=>exact O9 f hb c|some a=>exact L8 f hb a c);(have fin:∀a c,y=.slice a 0 c->Go.Calls Tryz.prog f (y::ys').toArray w fun e w'=>∃v,e=.returned v/\Grow w w'/\R [] own w' (.sl 0 []) v:=fun a c e=>by subst e;obtain⟨N,hN⟩:=key a c rfl;rcases(dO EN N).1 f _ _ hN with h|⟨-,h⟩;{obtain⟨v,h1,-⟩:=h [] own w _ (RL.cons (by rw[R]) hn);rw[hent]at h1;simp at h1};{exact h own w _ ho hgl (RL.cons (by rw[R]) hn)});rw[R]at hy;rcases hy with⟨-,-,a,c,rfl⟩|⟨g,off,cap,xs,rfl,h0,-⟩;{exact fin _ _ rfl};{exact fin _ _ rfl}};{cases h}
def Cy:Ctx:=⟨Cz.T,Cz.B,BM,Cz.XO⟩
theorem tN:jI Tryz.prog Cy:=⟨EN.mixed,EN.types,EN.loops,EN.fns,aB7,EN.extO⟩
noncomputable def aAN(f:FuncId):Option (List A->aF->Option (A×aF)):=bif Nat.beq f 223 then some (rU Cy)else Q7 f
theorem aDz:∀f g zs H x H',aAN f=some g->g zs H=some (x,H')->oO Cy.T Tryz.prog f zs H x H':=by intro f g zs H x H' hg h;unfold aAN at hg;cases h1:Nat.beq f 223 with|true=>obtain rfl:=ax h1;rw[h1,cc]at hg;obtain rfl:=ae hg;exact TJ tN h|false=>rw[h1,cf]at hg;exact tN.extO f g zs H x H' hg h
noncomputable def Cx:Ctx:=⟨Cy.T,Cy.B,Cy.X,aAN⟩
theorem sJ:jI Tryz.prog Cx:=⟨tN.mixed,tN.types,tN.loops,tN.fns,tN.ext,aDz⟩
theorem aRV:Cy.B 189=some aGk.fn:=by rfl
theorem aZJ:oH Cy 189=true:=by rfl
theorem aJD:Cy.B 191=some aQ6.fn:=by rfl
theorem aY9:oH Cy 191=true:=by rfl
theorem aZA:Cx.T 1=some th1.t:=by rfl
theorem aZO:Cx.T 3=some th3.t:=by rfl
theorem aYY:Cx.T 4=some th4.t:=by rfl
theorem aZD:Cx.T 5=some th5.t:=by rfl
theorem aZN:Cx.T 9=some th9.t:=by rfl
theorem aVv:Cx.T 20=some aRf.t:=by rfl
theorem aWp:Cx.T 21=some aQX.t:=by rfl
theorem aX3:Cx.T 22=some aLb.t:=by rfl
theorem aXr:Cx.T 23=some aSw.t:=by rfl
theorem aW9:Cx.T 24=some aPH.t:=by rfl
theorem aYB:Cx.T 25=some aMU.t:=by rfl
theorem aWY:Cx.T 27=some aNw.t:=by rfl
theorem aXy:Cx.T 29=some aK5.t:=by rfl
theorem aVs:Cx.T 31=some aMC.t:=by rfl
theorem aUy:Cx.T 33=some aKl.t:=by rfl
theorem aX2:Cx.T 34=some aMb.t:=by rfl
theorem aXq:Cx.T 36=some aSZ.t:=by rfl
theorem aT7:Cx.T 37=some aSt:=by rfl
theorem aV7:Cx.T 38=some aMA:=by rfl
theorem aU4:Cx.T 39=some aJ5.t:=by rfl
theorem aV9:Cx.T 40=some aLr:=by rfl
theorem aWS:Cx.T 42=some aHx:=by rfl
theorem aX8:Cx.T 44=some aQb:=by rfl
theorem aUJ:Cx.T 45=some aP6.t:=by rfl
theorem aUo:Cx.T 46=some aKK.t:=by rfl
theorem aT3:Cx.T 49=some aSk.t:=by rfl
theorem aW6:Cx.T 50=some aQB.t:=by rfl
theorem aVw:Cx.T 51=some aSq.t:=by rfl
theorem aW5:Cx.T 52=some aNx.t:=by rfl
theorem aWX:Cx.T 54=some aKb.t:=by rfl
theorem aXN:Cx.T 55=some aLs.t:=by rfl
theorem aXO:Cx.T 56=some aSv.t:=by rfl
theorem aWV:Cx.T 58=some aNN.t:=by rfl
theorem aTt:Cx.T 59=some aJi:=by rfl
theorem aTc:Cx.T 60=some VH.t:=by rfl
theorem aU8:Cx.T 62=some aSo.t:=by rfl
theorem aTw:Cx.T 63=some aNI.t:=by rfl
theorem aYJ:Cx.T 66=some aMf.t:=by rfl
theorem aYb:Cx.T 69=some aPW.t:=by rfl
theorem aUN:Cx.T 73=some YG.t:=by rfl
theorem aWC:Cx.T 75=some aOo.t:=by rfl
theorem aV1:Cx.T 79=some aPM.t:=by rfl
theorem aTS:Cx.T 81=some aSA.t:=by rfl
theorem aUY:Cx.T 82=some aQt:=by rfl
theorem aT0:Cx.T 83=some aR1:=by rfl
theorem aYx:Cx.T 85=some aSc.t:=by rfl
theorem aWs:Cx.T 86=some aPR.t:=by rfl
theorem aUS:Cx.T 88=some aRe.t:=by rfl
theorem aUI:Cx.T 90=some aI5:=by rfl
theorem aUh:Cx.T 92=some aRC.t:=by rfl
theorem aX7:Cx.T 93=some UF.t:=by rfl
theorem aVg:Cx.T 95=some aRq.t:=by rfl
theorem aJN:Cx.T 101=some aC5.t:=by rfl
theorem aPq:Cx.T 104=some aCS.t:=by rfl
theorem aJz:Cx.T 107=some aBr.t:=by rfl
theorem aMl:Cx.T 109=some aA6.t:=by rfl
theorem aRS:Cx.T 111=some W5.t:=by rfl
theorem aKQ:Cx.T 122=some aCA.t:=by rfl
theorem aI1:Cx.T 128=some aBQ.t:=by rfl
theorem aLN:Cx.T 130=some aBs.t:=by rfl
theorem aPg:Cx.T 132=some aBy.t:=by rfl
theorem aOr:Cx.T 136=some WL.t:=by rfl
theorem aKf:Cx.T 145=some aDc.t:=by rfl
theorem aPG:Cx.T 149=some aDM.t:=by rfl
theorem aRt:Cx.T 151=some W9:=by rfl
theorem aOk:Cx.T 157=some YA.t:=by rfl
theorem aPm:Cx.T 159=some Z4.t:=by rfl
theorem aNe:Cx.T 171=some aDQ.t:=by rfl
theorem aK9:Cx.T 178=some JG.t:=by rfl
theorem aOE:Cx.T 181=some Y2.t:=by rfl
theorem aOp:Cx.T 182=some aDV.t:=by rfl
theorem aLX:Cx.T 186=some ZT.t:=by rfl
theorem aPx:Cx.T 187=some W3.t:=by rfl
theorem aNf:Cx.T 193=some Z6.t:=by rfl
theorem aQC:Cx.T 199=some aAJ.t:=by rfl
theorem aM0:Cx.T 202=some XY.t:=by rfl
theorem aPk:Cx.T 203=some ZX.t:=by rfl
theorem aOn:Cx.T 210=some WO.t:=by rfl
theorem aLE:Cx.T 213=some aDn.t:=by rfl
theorem aOg:Cx.T 216=some aAX.t:=by rfl
theorem aQS:Cx.T 218=some Y1.t:=by rfl
theorem aK0:Cx.T 220=some Y5.t:=by rfl
theorem aKs:Cx.T 224=some aBw.t:=by rfl
theorem aOq:Cx.T 226=some aDT.t:=by rfl
theorem aRB:Cx.T 228=some aCU.t:=by rfl
theorem aNZ:Cx.T 230=some aAE.t:=by rfl
theorem aMo:Cx.T 233=some aAu.t:=by rfl
theorem aQJ:Cx.T 267=some aCX.t:=by rfl
theorem aR3:Cx.T 268=some aCI.t:=by rfl
theorem aLk:Cx.T 270=some aCO.t:=by rfl
theorem aPh:Cx.T 272=some Y6.t:=by rfl
theorem aNu:Cx.T 277=some aDa.t:=by rfl
theorem aRQ:Cx.T 278=some WM.t:=by rfl
theorem aM4:Cx.T 292=some aBq.t:=by rfl
theorem aM5:Cx.T 293=some aB4.t:=by rfl
theorem aNk:Cx.T 299=some aBM.t:=by rfl
theorem aNC:Cx.T 302=some Z7.t:=by rfl
theorem aSY:Cx.T 303=some aBx.t:=by rfl
theorem aNU:Cx.T 305=some aC1.t:=by rfl
theorem aOw:Cx.T 306=some aAz.t:=by rfl
theorem aL5:Cx.T 316=some Z9.t:=by rfl
theorem aQW:Cx.T 323=some XS.t:=by rfl
theorem aLP:Cx.T 329=some aBc.t:=by rfl
theorem aNp:Cx.T 331=some WR.t:=by rfl
theorem aKh:Cx.T 337=some aBG.t:=by rfl
theorem aSW:Cx.T 340=some W4.t:=by rfl
theorem aRo:Cx.T 342=some aDu.t:=by rfl
theorem aKv:Cx.T 344=some aAj.t:=by rfl
theorem aSR:Cx.T 347=some XK.t:=by rfl
theorem aJC:Cx.T 349=some aAc.t:=by rfl
theorem aKw:Cx.T 352=some aDF.t:=by rfl
theorem aQe:Cx.T 353=some aBi.t:=by rfl
theorem aSO:Cx.T 356=some aC9.t:=by rfl
theorem aP2:Cx.T 357=some Z0.t:=by rfl
theorem aS0:Cx.T 358=some aCx.t:=by rfl
theorem aQD:Cx.T 360=some aAI.t:=by rfl
theorem aQI:Cx.T 362=some aDB.t:=by rfl
theorem aNR:Cx.T 364=some aAe.t:=by rfl
theorem aRG:Cx.T 368=some aBE.t:=by rfl
theorem aMh:Cx.T 369=some aCW.t:=by rfl
theorem aLB:Cx.T 371=some aDP.t:=by rfl
theorem aMg:Cx.T 374=some aCY.t:=by rfl
theorem aK1:Cx.T 375=some aDN.t:=by rfl
theorem aQ7:Cx.T 376=some aDw.t:=by rfl
theorem aRx:Cx.T 377=some aBA.t:=by rfl
theorem aPw:Cx.T 378=some aCn:=by rfl
theorem aNO:Cx.T 383=some aBV.t:=by rfl
theorem aO1:Cx.T 385=some aB5.t:=by rfl
theorem aRR:Cx.T 390=some W2.t:=by rfl
theorem aPC:Cx.T 394=some aDb.t:=by rfl
theorem aSs:Cx.T 403=some YX.t:=by rfl
theorem aJ3:Cx.T 406=some aAn.t:=by rfl
theorem aKg:Cx.T 411=some aBP.t:=by rfl
theorem aOj:Cx.T 417=some aAp.t:=by rfl
theorem aSP:Cx.T 419=some X7.t:=by rfl
theorem aOW:Cx.T 422=some aBH.t:=by rfl
theorem aNM:Cx.T 435=some aCa.t:=by rfl
theorem aJ0:Cx.T 438=some XA:=by rfl
abbrev XB(f:FuncId)(m:MFn):Prop:=Cx.B f=some m
theorem aPd:XB 7 g7.fn:=by rfl
theorem aZh:XB 9 g9.fn:=by rfl
theorem aWa:XB 10 g10.fn:=by rfl
theorem aYa:XB 11 g11.fn:=by rfl
theorem aVK:XB 12 g12.fn:=by rfl
theorem aVI:XB 13 g13.fn:=by rfl
theorem aII:XB 14 g14.fn:=by rfl
theorem aUR:XB 17 g17.fn:=by rfl
theorem aVB:XB 18 g18.fn:=by rfl
theorem aVA:XB 22 g22.fn:=by rfl
theorem aVy:XB 23 g23.fn:=by rfl
theorem aYq:XB 28 g28.fn:=by rfl
theorem aXi:XB 29 g29.fn:=by rfl
theorem aXl:XB 30 g30.fn:=by rfl
theorem aWL:XB 31 g31.fn:=by rfl
theorem aXL:XB 32 g32.fn:=by rfl
theorem aVW:XB 33 g33.fn:=by rfl
theorem aTI:XB 34 g34.fn:=by rfl
theorem aXn:XB 35 g35.fn:=by rfl
theorem aVx:XB 36 g36.fn:=by rfl
theorem aUW:XB 37 g37.fn:=by rfl
theorem aUC:XB 38 g38.fn:=by rfl
theorem CN:XB 39 g39.fn:=by rfl
theorem aUe:XB 40 g40.fn:=by rfl
theorem aIO:XB 41 g41.fn:=by rfl
theorem aXI:XB 43 g43.fn:=by rfl
theorem HU:XB 44 g44.fn:=by rfl
theorem aVV:XB 45 g45.fn:=by rfl
theorem aIE:XB 46 g46.fn:=by rfl
theorem aU1:XB 47 g47.fn:=by rfl
theorem aXW:XB 48 g48.fn:=by rfl
theorem aVM:XB 49 g49.fn:=by rfl
theorem aIV:XB 50 g50.fn:=by rfl
theorem aUD:XB 51 g51.fn:=by rfl
theorem aYn:XB 56 g56.fn:=by rfl
theorem aXM:XB 57 g57.fn:=by rfl
theorem aVN:XB 59 g59.fn:=by rfl
theorem aUK:XB 60 g60.fn:=by rfl
theorem aTk:XB 61 g61.fn:=by rfl
theorem aXG:XB 62 g62.fn:=by rfl
theorem aYK:XB 63 g63.fn:=by rfl
theorem aYA:XB 64 g64.fn:=by rfl
theorem aTd:XB 65 g65.fn:=by rfl
theorem aT4:XB 66 g66.fn:=by rfl
theorem aYG:XB 67 g67.fn:=by rfl
theorem aH9:XB 68 g68.fn:=by rfl
theorem aWI:XB 69 g69.fn:=by rfl
theorem aYj:XB 70 g70.fn:=by rfl
theorem KX:XB 71 g71.fn:=by rfl
theorem aXm:XB 72 g72.fn:=by rfl
theorem aTp:XB 73 g73.fn:=by rfl
theorem aIJ:XB 74 g74.fn:=by rfl
theorem aVR:XB 75 g75.fn:=by rfl
theorem aUa:XB 76 g76.fn:=by rfl
theorem aVJ:XB 77 g77.fn:=by rfl
theorem aTK:XB 78 g78.fn:=by rfl
theorem aTo:XB 79 g79.fn:=by rfl
theorem H5:XB 80 g80.fn:=by rfl
theorem aWO:XB 81 g81.fn:=by rfl
theorem aIC:XB 82 g82.fn:=by rfl
theorem aVi:XB 83 g83.fn:=by rfl
theorem aTi:XB 84 g84.fn:=by rfl
theorem aU7:XB 85 g85.fn:=by rfl
theorem aW8:XB 86 g86.fn:=by rfl
theorem aUm:XB 87 g87.fn:=by rfl
theorem aVm:XB 88 g88.fn:=by rfl
theorem aIX:XB 89 g89.fn:=by rfl
theorem aIH:XB 90 g90.fn:=by rfl
theorem aVq:XB 91 g91.fn:=by rfl
theorem aVr:XB 92 g92.fn:=by rfl
theorem aVZ:XB 93 g93.fn:=by rfl
theorem aP0:XB 100 aG2.fn:=by rfl
theorem aLl:XB 101 WF.fn:=by rfl
theorem aJl:XB 104 Z8.fn:=by rfl
theorem aK7:XB 105 aPQ.fn:=by rfl
theorem aSz:XB 106 aKc.fn:=by rfl
theorem aQ3:XB 107 aLu.fn:=by rfl
theorem E3:XB 108 aLh.fn:=by rfl
theorem aJ1:XB 109 aPb.fn:=by rfl
theorem aRL:XB 110 aPK.fn:=by rfl
theorem aJ2:XB 111 aN3.fn:=by rfl
theorem aPr:XB 112 aKA.fn:=by rfl
theorem aS6:XB 113 aLt.fn:=by rfl
theorem aAW:XB 114 aKV.fn:=by rfl
theorem aNm:XB 115 aOL.fn:=by rfl
theorem aQv:XB 116 aSy.fn:=by rfl
theorem aKC:XB 117 aKa.fn:=by rfl
theorem aPP:XB 118 TL.fn:=by rfl
theorem aBW:XB 119 aN1.fn:=by rfl
theorem aSM:XB 120 aLm.fn:=by rfl
theorem aKH:XB 121 aHs.fn:=by rfl
theorem aPS:XB 122 aOx.fn:=by rfl
theorem aQA:XB 123 aO7.fn:=by rfl
theorem aRK:XB 124 aNy.fn:=by rfl
theorem aJJ:XB 125 aJ4.fn:=by rfl
theorem aJY:XB 126 aN0.fn:=by rfl
theorem aQF:XB 127 aKY.fn:=by rfl
theorem aJF:XB 128 aRE.fn:=by rfl
theorem aPu:XB 129 aM2.fn:=by rfl
theorem aOP:XB 130 aNs.fn:=by rfl
theorem aLy:XB 131 aQf.fn:=by rfl
theorem YJ:XB 132 aFU.fn:=by rfl
theorem aNj:XB 133 aNP.fn:=by rfl
theorem L5:XB 134 aMH.fn:=by rfl
theorem NJ:XB 135 aQK.fn:=by rfl
theorem aLQ:XB 136 aFR.fn:=by rfl
theorem aSU:XB 137 aAT.fn:=by rfl
theorem aCy:XB 138 aN2.fn:=by rfl
theorem aKd:XB 139 aQP.fn:=by rfl
theorem aRU:XB 140 aPB.fn:=by rfl
theorem aP5:XB 141 aNa.fn:=by rfl
theorem aMc:XB 148 aKO.fn:=by rfl
theorem aRk:XB 150 aMZ.fn:=by rfl
theorem aQu:XB 155 aEn.fn:=by rfl
theorem aNG:XB 158 aM7.fn:=by rfl
theorem aOM:XB 159 aN6.fn:=by rfl
theorem aC7:XB 160 aGJ.fn:=by rfl
theorem aRM:XB 161 aSK.fn:=by rfl
theorem aSS:XB 162 aNb.fn:=by rfl
theorem aR7:XB 163 aRW.fn:=by rfl
theorem aI8:XB 164 aHl.fn:=by rfl
theorem aQO:XB 165 aLR.fn:=by rfl
theorem aLM:XB 166 aMy.fn:=by rfl
theorem aJM:XB 167 aMQ.fn:=by rfl
theorem aPT:XB 168 aQi.fn:=by rfl
theorem aKz:XB 169 YR.fn:=by rfl
theorem aPa:XB 170 aL2.fn:=by rfl
theorem aJd:XB 171 aPf.fn:=by rfl
theorem aQj:XB 172 aKS.fn:=by rfl
theorem aOu:XB 173 NS.fn:=by rfl
theorem fF:XB 177 aOt.fn:=by rfl
theorem Z2:XB 178 aR8.fn:=by rfl
theorem aAV:XB 179 aNv.fn:=by rfl
theorem aMv:XB 180 aLF.fn:=by rfl
theorem aL7:XB 181 aJp.fn:=by rfl
theorem NG:XB 182 aOZ.fn:=by rfl
theorem kO:XB 183 aMX.fn:=by rfl
theorem aLw:XB 184 aJI.fn:=by rfl
theorem aNV:XB 185 aSa.fn:=by rfl
theorem aPn:XB 186 aJA.fn:=by rfl
theorem aMs:XB 187 aMx.fn:=by rfl
theorem aPl:XB 188 aKN.fn:=by rfl
theorem aLS:XB 189 aGk.fn:=by rfl
theorem aJG:XB 190 aSf.fn:=by rfl
theorem aRg:XB 192 aA3.fn:=by rfl
theorem aOf:XB 193 aG7.fn:=by rfl
theorem tY:XB 194 aMi.fn:=by rfl
theorem aMz:XB 195 aFf.fn:=by rfl
theorem rI:XB 196 aRP.fn:=by rfl
theorem B0:XB 197 aQG.fn:=by rfl
theorem aQr:XB 198 aKo.fn:=by rfl
theorem aNl:XB 199 aQx.fn:=by rfl
theorem aKM:XB 200 aMY.fn:=by rfl
theorem aNt:XB 201 aOb.fn:=by rfl
theorem aI3:XB 202 aNA.fn:=by rfl
theorem aJf:XB 203 aER.fn:=by rfl
theorem aRm:XB 204 aF1.fn:=by rfl
theorem aQU:XB 205 aLZ.fn:=by rfl
theorem MK:XB 206 aGQ.fn:=by rfl
theorem aAq:XB 207 aDG.fn:=by rfl
theorem aS4:XB 212 aD6.fn:=by rfl
theorem aPs:XB 213 O3.fn:=by rfl
theorem aJ8:XB 214 YH.fn:=by rfl
theorem aLU:XB 215 aFg.fn:=by rfl
theorem aOS:XB 216 aKP.fn:=by rfl
theorem aPe:XB 217 aJq.fn:=by rfl
theorem MN:XB 218 aE8.fn:=by rfl
theorem xU:XB 220 aI7.fn:=by rfl
theorem aKy:XB 221 aNi.fn:=by rfl
theorem aQy:XB 222 aJx.fn:=by rfl
theorem aMM:XB 224 aRA.fn:=by rfl
theorem aNW:XB 226 aO9.fn:=by rfl
theorem wN:XB 227 aRT.fn:=by rfl
theorem aMm:XB 228 aMD.fn:=by rfl
theorem aNc:XB 229 aQ5.fn:=by rfl
theorem aKG:XB 230 aQQ.fn:=by rfl
theorem aOI:XB 231 aO5.fn:=by rfl
theorem aNY:XB 232 aJ9.fn:=by rfl
theorem aRJ:XB 233 aKI.fn:=by rfl
theorem aLC:XB 234 aSJ.fn:=by rfl
theorem aJv:XB 235 aNE.fn:=by rfl
theorem aLi:XB 236 aPc.fn:=by rfl
theorem aSE:XB 237 aQR.fn:=by rfl
theorem aM9:XB 238 aQ8.fn:=by rfl
theorem aLa:XB 239 aOi.fn:=by rfl
theorem aQo:XB 240 aRO.fn:=by rfl
theorem aPZ:XB 241 aNg.fn:=by rfl
theorem aRs:XB 242 aLg.fn:=by rfl
theorem aLL:XB 243 aJw.fn:=by rfl
theorem aIZ:XB 244 aL1.fn:=by rfl
theorem aO3:XB 245 aNo.fn:=by rfl
theorem aKe:XB 249 aG9.fn:=by rfl
theorem aMp:XB 250 aHb.fn:=by rfl
theorem aJH:XB 251 aQl.fn:=by rfl
theorem aLA:XB 253 aLd.fn:=by rfl
theorem aLv:XB 254 aJu.fn:=by rfl
theorem aNS:XB 255 aFu.fn:=by rfl
theorem aR0:XB 256 aPU.fn:=by rfl
theorem aJs:XB 257 aMa.fn:=by rfl
theorem aQN:XB 258 aKm.fn:=by rfl
theorem aJg:XB 259 aP4.fn:=by rfl
theorem aOe:XB 260 aSe.fn:=by rfl
theorem NL:XB 261 aLH.fn:=by rfl
theorem aOh:XB 262 aP9.fn:=by rfl
theorem aRd:XB 263 aSb.fn:=by rfl
theorem aNJ:XB 264 aSL.fn:=by rfl
theorem aNn:XB 265 aLT.fn:=by rfl
theorem aS2:XB 266 aR2.fn:=by rfl
theorem aJW:XB 268 aSm.fn:=by rfl
theorem aQV:XB 271 aMj.fn:=by rfl
theorem aSV:XB 272 aK2.fn:=by rfl
theorem aL0:XB 274 aLO.fn:=by rfl
theorem zY:XB 275 aKB.fn:=by rfl
theorem aLc:XB 276 aLo.fn:=by rfl
theorem aMu:XB 277 aOX.fn:=by rfl
theorem aMW:XB 278 aRy.fn:=by rfl
theorem aRr:XB 279 aKJ.fn:=by rfl
theorem aLI:XB 280 aNh.fn:=by rfl
theorem aMe:XB 281 aOl.fn:=by rfl
theorem aO8:XB 282 aQY.fn:=by rfl
theorem aPz:XB 283 aLV.fn:=by rfl
theorem aJ6:XB 284 aJQ.fn:=by rfl
theorem aST:XB 285 aOa.fn:=by rfl
theorem aO2:XB 286 aI2.fn:=by rfl
theorem aKZ:XB 287 aK8.fn:=by rfl
theorem aNQ:XB 288 aKi.fn:=by rfl
theorem aRu:XB 289 aFJ.fn:=by rfl
theorem aJZ:XB 290 aRl.fn:=by rfl
theorem XD:XB 291 aOm.fn:=by rfl
theorem aRa:XB 292 aRH.fn:=by rfl
theorem aKp:XB 293 aKD.fn:=by rfl
theorem aRI:XB 296 aEc.fn:=by rfl
theorem aJ7:XB 300 aGT.fn:=by rfl
theorem aJK:XB 301 aGG.fn:=by rfl
theorem aPD:XB 302 aAr.fn:=by rfl
theorem aML:XB 304 aFY.fn:=by rfl
theorem aBB:XB 305 aRD.fn:=by rfl
theorem AE:XB 306 aMJ.fn:=by rfl
theorem aMS:XB 307 aJb.fn:=by rfl
theorem aOU:XB 308 aOO.fn:=by rfl
theorem aMN:XB 309 aPo.fn:=by rfl
theorem aJB:XB 310 aNz.fn:=by rfl
theorem aOy:XB 314 aCj.fn:=by rfl
theorem aJe:XB 315 aRj.fn:=by rfl
theorem aLn:XB 316 aLj.fn:=by rfl
theorem ZO:XB 317 aSj.fn:=by rfl
theorem aK4:XB 318 aCi.fn:=by rfl
theorem aOY:XB 320 aPE.fn:=by rfl
theorem aLD:XB 321 aJm.fn:=by rfl
theorem aK6:XB 322 aP3.fn:=by rfl
theorem aJL:XB 323 aSd.fn:=by rfl
theorem aJS:XB 324 aOH.fn:=by rfl
theorem aOd:XB 325 aHg.fn:=by rfl
theorem aMw:XB 326 aEj.fn:=by rfl
theorem aQz:XB 327 aLz.fn:=by rfl
theorem aPF:XB 329 aRc.fn:=by rfl
theorem aZx:Cx.T.gl.tab 7=some ([.int .u8 0,.int .u8 1,.int .u8 56,.int .u8 2,.int .u8 57,.int .u8 49,.int .u8 28,.int .u8 3,.int .u8 61,.int .u8 58,.int .u8 42,.int .u8 50,.int .u8 38,.int .u8 29,.int .u8 17,.int .u8 4,.int .u8 62,.int .u8 47,.int .u8 59,.int .u8 36,.int .u8 45,.int .u8 43,.int .u8 51,.int .u8 22,.int .u8 53,.int .u8 39,.int .u8 33,.int .u8 30,.int .u8 24,.int .u8 18,.int .u8 12,.int .u8 5,.int .u8 63,.int .u8 55,.int .u8 48,.int .u8 27,.int .u8 60,.int .u8 41,.int .u8 37,.int .u8 16,.int .u8 46,.int .u8 35,.int .u8 44,.int .u8 21,.int .u8 52,.int .u8 32,.int .u8 23,.int .u8 11,.int .u8 54,.int .u8 26,.int .u8 40,.int .u8 15,.int .u8 34,.int .u8 20,.int .u8 31,.int .u8 10,.int .u8 25,.int .u8 14,.int .u8 19,.int .u8 9,.int .u8 13,.int .u8 8,.int .u8 7,.int .u8 6]:List Value):=by rfl
theorem aYW:Cx.T.gl.tab 0=some ([.int .i64 4,.int .i64 2,.int .i64 4,.int .i64 4,.int .i64 4]:List Value):=by rfl
theorem aYR:Cx.T.gl.tab 4=some ([.int .u8 0,.int .u8 35,.int .u8 38,.int .u8 29,.int .u8 7,.int .u8 7,.int .u8 15,.int .u8 32,.int .u8 92]:List Value):=by rfl
theorem aZb:Cx.T.gl.tab 2=some ([.int .u8 0,.int .u8 1,.int .u8 1,.int .u8 1,.int .u8 3,.int .u8 3,.int .u8 2,.int .u8 2,.int .u8 2,.int .u8 2,.int .u8 3,.int .u8 3,.int .u8 3]:List Value):=by rfl
theorem aZV:Cx.T.gl.tab 1=some ([.string ⟨#[]⟩,.string ⟨#[]⟩,.string ⟨#[]⟩,.string ⟨#[]⟩,.string ⟨#[]⟩,.string ⟨#[]⟩,.string ⟨#[]⟩,.string ⟨#[]⟩,.string ⟨#[]⟩,.string ⟨#[]⟩,.string ⟨#[]⟩,.string ⟨#[]⟩,.string ⟨#[]⟩,.string ⟨#[]⟩,.string ⟨#[]⟩,.string ⟨#[73]⟩,.string ⟨#[83]⟩,.string ⟨#[69]⟩,.string ⟨#[79]⟩,.string ⟨#[77]⟩,.string ⟨#[73,83]⟩,.string ⟨#[73,77]⟩,.string ⟨#[83,77]⟩,.string ⟨#[79,77]⟩,.string ⟨#[73,65]⟩,.string ⟨#[77,73]⟩,.string ⟨#[73,73]⟩,.string ⟨#[]⟩,.string ⟨#[]⟩,.string ⟨#[]⟩,.string ⟨#[108,111,97,100]⟩,.string ⟨#[115,116,111,114,101]⟩,.string ⟨#[101,118,105,99,116]⟩,.string ⟨#[102,119,100,115]⟩,.string ⟨#[102,119,100,109]⟩,.string ⟨#[105,110,118]⟩,.string ⟨#[112,117,116]⟩,.string ⟨#[118,97,108,117,101]⟩,.string ⟨#[97,108,111,110,101]⟩,.string ⟨#[109,111,114,101]⟩,.string ⟨#[103,114,97,110,116]⟩,.string ⟨#[115,111,111,110]⟩,.string ⟨#[97,99,107]⟩,.string ⟨#[108,97,115,116]⟩,.string ⟨#[]⟩,.string ⟨#[116,97,107,101]⟩,.string ⟨#[97,115,107]⟩,.string ⟨#[97,115,107,109]⟩,.string ⟨#[112,117,116]⟩,.string ⟨#[103,105,118,101]⟩,.string ⟨#[99,111,112,121]⟩,.string ⟨#[105,110,118]⟩,.string ⟨#[100,111,110,101]⟩,.string ⟨#[100,111]⟩,.string ⟨#[100,114,111,112]⟩,.string ⟨#[]⟩,.string ⟨#[]⟩,.string ⟨#[]⟩,.string ⟨#[]⟩,.string ⟨#[]⟩,.string ⟨#[85,110]⟩,.string ⟨#[83,104]⟩,.string ⟨#[69,120]⟩,.string ⟨#[79,119]⟩,.string ⟨#[]⟩,.string ⟨#[]⟩,.string ⟨#[]⟩,.string ⟨#[]⟩,.string ⟨#[]⟩,.string ⟨#[]⟩,.string ⟨#[]⟩,.string ⟨#[]⟩,.string ⟨#[]⟩,.string ⟨#[]⟩,.string ⟨#[]⟩,.string ⟨#[103,101,116,115]⟩,.string ⟨#[103,101,116,109]⟩,.string ⟨#[117,112]⟩,.string ⟨#[98,97,99,107]⟩,.string ⟨#[115,116,97,108,101]⟩,.string ⟨#[]⟩,.string ⟨#[]⟩,.string ⟨#[]⟩,.string ⟨#[]⟩,.string ⟨#[]⟩,.string ⟨#[]⟩,.string ⟨#[]⟩,.string ⟨#[]⟩,.string ⟨#[]⟩,.string ⟨#[]⟩,.string ⟨#[105,110,118,115]⟩,.string ⟨#[109,101,109]⟩,.string ⟨#[97,108,111,110,101]⟩,.string ⟨#[102,119,100,115]⟩,.string ⟨#[102,119,100,109]⟩,.string ⟨#[103,114,97,110,116]⟩,.string ⟨#[119,114,105,116,101]⟩,.string ⟨#[98,97,99,107]⟩,.string ⟨#[99,108,101,97,114]⟩,.string ⟨#[110,111,116,101]⟩,.string ⟨#[98,111,116,104]⟩,.string ⟨#[111,119,110]⟩,.string ⟨#[102,114,101,101]⟩,.string ⟨#[98,117,115,121]⟩,.string ⟨#[116,119,105,99,101]⟩]:List Value):=by rfl
abbrev PS(f:FuncId):Prop:=∀{zs:List A}{dst:Option Nat}{ms:List MOp}{st:Ev.St}{k:List It}{Q:Ex->Ev.St->Prop},l7 Cx f zs dst ms st k Q↔IE Cx f (dS st.H zs) (zs.all shut) dst 0 ms st k Q
theorem aZm:PS 14:=aE rfl
theorem aZo:PS 17:=aE rfl
theorem aZG:PS 18:=aE rfl
theorem aZT:PS 29:=aE rfl
theorem aZB:PS 32:=aE rfl
theorem aZa:PS 33:=aE rfl
theorem aZy:PS 34:=aE rfl
theorem aZQ:PS 35:=aE rfl
theorem aZq:PS 36:=aE rfl
theorem aZd:PS 41:=aE rfl
theorem aZP:PS 43:=aE rfl
theorem aYQ:PS 45:=aE rfl
theorem aY8:PS 46:=aE rfl
theorem aZc:PS 48:=aE rfl
theorem aY5:PS 49:=aE rfl
theorem aZF:PS 50:=aE rfl
theorem aZl:PS 59:=aE rfl
theorem aYO:PS 60:=aE rfl
theorem aZu:PS 61:=aE rfl
theorem aYP:PS 62:=aE rfl
theorem aZz:PS 63:=aE rfl
theorem aY7:PS 65:=aE rfl
theorem aZW:PS 73:=aE rfl
theorem aY6:PS 74:=aE rfl
theorem aY0:PS 79:=aE rfl
theorem aY1:PS 81:=aE rfl
theorem aYL:PS 85:=aE rfl
theorem aZi:PS 86:=aE rfl
theorem aYN:PS 87:=aE rfl
theorem aZM:PS 89:=aE rfl
theorem aZs:PS 91:=aE rfl
theorem aYV:PS 92:=aE rfl
theorem aZp:PS 93:=aE rfl
theorem aYh:PS 100:=aE rfl
theorem aUB:PS 107:=aE rfl
theorem aYk:PS 109:=aE rfl
theorem aVC:PS 111:=aE rfl
theorem aWl:PS 112:=aE rfl
theorem aUk:PS 114:=aE rfl
theorem aUM:PS 116:=aE rfl
theorem aTJ:PS 117:=aE rfl
theorem aTe:PS 118:=aE rfl
theorem aXJ:PS 120:=aE rfl
theorem aYI:PS 123:=aE rfl
theorem aUP:PS 124:=aE rfl
theorem aWm:PS 125:=aE rfl
theorem aVS:PS 127:=aE rfl
theorem aXs:PS 130:=aE rfl
theorem aVX:PS 132:=aE rfl
theorem aUE:PS 133:=aE rfl
theorem aUz:PS 136:=aE rfl
theorem aTl:PS 139:=aE rfl
theorem aVk:PS 140:=aE rfl
theorem aV3:PS 141:=aE rfl
theorem aTL:PS 162:=aE rfl
theorem aTs:PS 166:=aE rfl
theorem aWD:PS 169:=aE rfl
theorem aXv:PS 172:=aE rfl
theorem aX6:PS 174:=aE rfl
theorem aXw:PS 175:=aE rfl
theorem aXg:PS 176:=aE rfl
theorem aTZ:PS 184:=aE rfl
theorem aUb:PS 187:=aE rfl
theorem aUd:PS 188:=aE rfl
theorem aTb:PS 190:=aE rfl
theorem aUw:PS 196:=aE rfl
theorem aTQ:PS 198:=aE rfl
theorem aUx:PS 199:=aE rfl
theorem aXK:PS 200:=aE rfl
theorem aU2:PS 201:=aE rfl
theorem aXf:PS 202:=aE rfl
theorem aWf:PS 205:=aE rfl
theorem aVE:PS 210:=aE rfl
theorem aWh:PS 214:=aE rfl
theorem aUv:PS 215:=aE rfl
theorem aVQ:PS 216:=aE rfl
theorem aUV:PS 222:=aE rfl
theorem aWk:PS 225:=aE rfl
theorem aYt:PS 229:=aE rfl
theorem rO:PS 252:=aE rfl
theorem aV5:PS 253:=aE rfl
theorem aVe:PS 254:=aE rfl
theorem aTP:PS 255:=aE rfl
theorem aVG:PS 263:=aE rfl
theorem aWM:PS 274:=aE rfl
theorem aVz:PS 286:=aE rfl
theorem aWu:PS 292:=aE rfl
theorem aTf:PS 304:=aE rfl
theorem aW1:PS 307:=aE rfl
theorem aU9:PS 308:=aE rfl
theorem aVo:PS 309:=aE rfl
theorem aWK:PS 310:=aE rfl
theorem aVT:PS 318:=aE rfl
theorem aU6:PS 319:=aE rfl
theorem aTy:PS 321:=aE rfl
theorem aUq:PS 322:=aE rfl
theorem aT1:PS 323:=aE rfl
theorem aWv:PS 328:=aE rfl
theorem aVY:PS 329:=aE rfl
attribute [go_sem] g7 aV8 YU aWc aAb aUG W6 g8 g9 g10 aN8 OU aN7 PQ g11 aLf NQ aL4 MP g12 g13 g14 aOV M9 aS5 PD g17 g18 g22 aSC O5 aOF N8 aP7 NA g23 g24 g25 g26 g27 g28 g29 g30 g31 g32 g33 g34 g35 g36 g37 g38 g39 g40 aJy O1 g41 g43 g44 g45 g46 g47 g48 g49 aKq MF aL9 P2 g50 g51 g52 g53 g54 g55 g56 aMO PA g57 g58 g59 g60 g61 aN9 PM aR9 N4 g62 g63 g64 g65 g66 g67 g68 g69 g70 g71 g72 aRv MC aMr OH aMK PG aQc PB g73 aRF NK aJT MM g74 g75 g76 g77 g78 g79 g80 g81 g82 aOR PK aS3 OR g83 g84 g85 aQq L9 g86 g87 g88 g89 g90 g91 g92 g93 aNK MT g94 g95 g96 g97 g98 g99 aG2 aEm F9 WF aTW aU5 Z8 aEf FZ aHI F6 aPQ aKc aLu aLh aPb aPK aN3 aKA aLt aKV aOL aSy aKa TL aN1 aLm aHs aG1 F4 aOx aO7 aNy aJ4 aN0 aKY aRE aM2 aNs aQf aFU aHe FX aNP aMH aQK aFR aD4 ET aAT aHf GZ aG3 FI aN2 aQP aPB aNa aV0 aUF aYz aXp aXh aWA aKO aUj aMZ aWo aTj aUf aVt aEn aVa aW0 aM7 aN6 aGJ aHN EX aSK aNb aRW aHl aE4 E8 aLR aMy aMQ aQi YR aFI GV aGL HD aL2 aPf aKS NS aGo FU aHy F5 aFz E0 aEI E1 aX9 aVH aVd aOt aR8 aNv aLF aJp aOZ aMX aJI aSa aJA aMx aKN aGk aSf aQ6 aA3 aFo EO aEe FV aG7 aHK G2 aMi aFf aEK G3 aRP aQG aKo aQx aMY aOb aNA aER aGP FN aF1 aGV GS aLZ aGQ aEv EA aDG aHp HF aEa GR aWe aWn aYl aWU aD6 O3 aE2 HE aFj G4 aEJ E6 aHw FQ YH aFp HJ aHZ EE aFg aET EQ aKP aJq aE8 aEE GY aXS aI7 aNi aJx aRA aTN aO9 aRT aMD aQ5 aQQ aO5 aJ9 aKI aSJ aNE aPc aQR aQ8 aOi aRO aNg aLg aJw aL1 aNo aXB aUX aG9 aHb aQl aVj aLd aJu aFu aEr FW aPU aMa aKm aP4 aSe aLH aP9 aSb aSL aLT aR2 aVU aSm aXF aWd aMj aK2 aUH aLO aKB aLo aOX aRy aKJ aNh aOl aQY aLV aJQ aOa aI2 aK8 aKi aFJ aF3 GU aRl aOm aRH aKD aYH aEc aGT aHU GJ aGG aGe F7 aAr aUO aFY aGB HA aRD aMJ aJb aOO aPo aNz aTx aCj aE6 HG aEB FR aRj aLj aSj aCi aX4 aPE aJm aP3 aSd aOH aHg aGh GL aEj aGX E5 aLz aYw aRc aZm aZo aZG aZT aZB aZa aZy aZQ aZq aZd aZP aYQ aY8 aZc aY5 aZF aZl aYO aZu aYP aZz aY7 aZW aY6 aY0 aY1 aYL aZi aYN aZM aZs aYV aZp aYh aUB aYk aVC aWl aUk aUM aTJ aTe aXJ aYI aUP aWm aVS aXs aVX aUE aUz aTl aVk aV3 aTL aTs aWD aXv aX6 aXw aXg aTZ aUb aUd aTb aUw aTQ aUx aXK aU2 aXf aWf aVE aWh aUv aVQ aUV aWk aYt rO aV5 aVe aTP aVG aWM aVz aWu aTf aW1 aU9 aVo aWK aVT aU6 aTy aUq aT1 aWv aVY aZA aZO aYY aZD aZN aVv aWp aX3 aXr aW9 aYB aWY aXy aVs aUy aX2 aXq aT7 aV7 aU4 aV9 aWS aX8 aUJ aUo aT3 aW6 aVw aW5 aWX aXN aXO aWV aTt aTc aU8 aTw aYJ aYb aUN aWC aV1 aTS aUY aT0 aYx aWs aUS aUI aUh aX7 aVg aJN aPq aJz aMl aRS aKQ aI1 aLN aPg aOr aKf aPG aRt aOk aPm aNe aK9 aOE aOp aLX aPx aNf aQC aM0 aPk aOn aLE aOg aQS aK0 aKs aOq aRB aNZ aMo aQJ aR3 aLk aPh aNu aRQ aM4 aM5 aNk aNC aSY aNU aOw aL5 aQW aLP aNp aKh aSW aRo aKv aSR aJC aKw aQe aSO aP2 aS0 aQD aQI aNR aRG aMh aLB aMg aK1 aQ7 aRx aPw aNO aO1 aRR aPC aSs aJ3 aKg aOj aSP aOW aNM aJ0 th1 th3 th4 th5 th9 aRf aQX aLb aSw aPH aMU aNw aK5 aMC aKl aMb aSZ aSt aMA aJ5 aLr aHx aQb aP6 aKK aSk aQB aSq aNx aKb aLs aSv aNN aJi VH aSo aNI aMf aPW YG aOo aPM aSA aQt aR1 aSc aPR aRe aI5 aRC UF aRq aC5 aCS aBr aA6 W5 aCA aBQ aBs aBy WL aDc aDM W9 YA Z4 aDQ JG Y2 aDV ZT W3 Z6 aAJ XY ZX WO aDn aAX Y1 Y5 aBw aDT aCU aAE aAu aCX aCI aCO Y6 aDa WM aBq aB4 aBM Z7 aBx aC1 aAz Z9 XS aBc WR aBG W4 aDu aAj XK aAc aDF aBi aC9 Z0 aCx aAI aDB aAe aBE aCW aDP aCY aDN aDw aBA aCn aBV aB5 W2 aDb YX aAn aBP aAp X7 aBH aCa XA aZx aYW aYR aZb aZV
abbrev Sv(s:ByteArray):A:=.v (.string s)
abbrev I8(n:Int):A:=.v (.int .u8 n)
abbrev I64(n:Int):A:=.v (.int .i64 n)
abbrev Bo(b:Bool):A:=.v (.bool b)
theorem mT(s:ByteArray):s.data.toList.length=s.size:=rfl
