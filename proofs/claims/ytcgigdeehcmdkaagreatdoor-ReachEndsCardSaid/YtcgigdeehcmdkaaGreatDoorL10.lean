/- The evaluator's context: types and bodies, and that they are the program's. Printed by wip/ev/gen/ctx.py. -/
import Derived.Test.YtcgigdeehcmdkaaGreatDoorL06
set_option linter.all false
namespace Go.Proofs.YtcgigdeehcmdkaaGreatDoor.Ev
open Go Go.RowKit
set_option maxRecDepth 100000
def g9:GF 70 [.cell 6 51,.tmp 7] .shut Tryz.f9 (kpL aL [] [[0,1,2],[1,2,3,6],[1,2,3,6,8],[1,3,6],[1,3,6,8],[6,9,10],[6,10],[6,9],[6,9,11],[6,9,11,12],[6,9,11,12,13],[6,9,11,12,13],[6,9,11,13],[6,9,10,11,12,13],[6,10],[6,9,11],[6,9,11],[6,11]]):=⟨_,by conv=>lhs;reduce⟩
def g18:GF 23 [.tmp 4] .shut Tryz.f18 (kpL aL [] [[0,1],[1,2],[1,2,5],[1,2,5,6],[1,2,5,6],[1,2,5,6],[5]]):=⟨_,by conv=>lhs;reduce⟩
def KO:Got (lpM g18.m 0):=⟨_,by conv=>lhs;cbv⟩
def aA3:M:=KO.m
theorem aN2:UL aA3 KO.m:=ul
def g26:GF 2 [.cell 0 97] .shut Tryz.f26:=⟨_,by conv=>lhs;cbv⟩
def g27:GF 26 [.tmp 4] .shut Tryz.f27 (kpL aL [] [[0,1],[0,1],[],[0,1],[0,1,5],[0,1,5],[0,1,5],[],[]]):=⟨_,by conv=>lhs;reduce⟩
def g30:GF 52 [.tmp 6,.tmp 7] .pass Tryz.f30 (kpL aL [] [[0,1,2],[1,2,3],[1,2,3,8,9],[],[1,2,3,8],[],[1,2,3,8],[2,3,8,10],[8,10],[10]]):=⟨_,by conv=>lhs;reduce⟩
def g31:GF 57 [.tmp 6] .pass Tryz.f31 (kpL aL [] [[0,1,2],[0,1,2],[0,1,2,7],[],[0,1,2,8],[0,1,2,8],[0,1,2],[0,1,2],[0,1,2],[]]):=⟨_,by conv=>lhs;reduce⟩
def g41:GF 12 [.tmp 4] .shut Tryz.f41:=⟨_,by conv=>lhs;cbv⟩
def g44:GF 29 [.tmp 4,.tmp 5] .pass Tryz.f44 (kpL aL [] [[0,1],[0,3],[],[0,3],[3,6,7],[],[3,6]]):=⟨_,by conv=>lhs;reduce⟩
def g47:GF 83 [.tmp 6] .shut Tryz.f47 (kpL aL [] [[0,1,2],[2,3,4],[3,4,7],[3,4,7,23,24],[3,4,7,23,24],[3,4,7,8,23,24],[3,4,7,8,9,23,24],[3,4,7,8,9,23,24,36,37,38],[3,4,7,8,9,23,24,36,37,38],[3,4,7,8,9,11,23,24,36,37,38],[3,4,7,8,9,12,13,23,24,36,37,38],[3,4,7,8,9,12,23,24,36,37,38],[3,4,7,8,9,12,23,24,36,37,38],[3,4,7,8,9,23,24,36,37,38],[3,4,7,8,9,23,24],[3,4,7,8,9,23,24,62,63,64],[3,4,7,8,9,23,24,62,63,64],[3,4,7,8,9,15,23,24,62,63,64],[3,4,7,8,9,15,23,24,62,63,64],[3,4,7,8,9,23,24,62,63,64],[3,4,7,9,23,24],[],[3,4,7,23,24],[]]):=⟨_,by conv=>lhs;reduce⟩
def g73:GF 30 [.tmp 2] .shut Tryz.f73:=⟨_,by conv=>lhs;cbv⟩
def g76:GF 10 [.cell 2 196,.tmp 3] .shut Tryz.f76:=⟨_,by conv=>lhs;cbv⟩
def g78:GF 6 [.tmp 4] .pass Tryz.f78:=⟨_,by conv=>lhs;cbv⟩
def g79:GF 11 [.tmp 4] .shut Tryz.f79:=⟨_,by conv=>lhs;cbv⟩
def g80:GF 16 [.cell 4 59] .shut Tryz.f80:=⟨_,by conv=>lhs;cbv⟩
def g85:GF 144 [.tmp 4,.tmp 5] .pass Tryz.f85 (kpL aL [] [[0,1],[2,3],[2,6],[2,6,7],[2,6,7,8],[],[2,6,7,8],[],[2,6,7,8],[2,6,9,11],[11],[2,6,9],[2,6,9],[2,6,9,12],[2,9,12,13,14,15,16],[2,9,16,17],[2,6,9],[2,6,9],[2,6,9,18,19,20],[]]):=⟨_,by conv=>lhs;reduce⟩
def g88:GF 9 [.tmp 4] .shut Tryz.f88:=⟨_,by conv=>lhs;cbv⟩
def g89:GF 59 [.tmp 4] .pass Tryz.f89 (kpL aL [] [[0,1],[0,3],[0,3,5],[0,3,5,23],[0,3,5,23],[0,3,5,23],[3,5],[0,3,5,23],[0,3,5],[3,23],[3],[]]):=⟨_,by conv=>lhs;reduce⟩
def g91:GF 47 [.tmp 4] .shut Tryz.f91 (kpL aL [] [[0,1],[2,3],[],[2,3],[5]]):=⟨_,by conv=>lhs;reduce⟩
def g98:GF 96 [.tmp 6] .shut Tryz.f98:=⟨_,by conv=>lhs;cbv⟩
def g99:GF 23 [.tmp 4] .pass Tryz.f99:=⟨_,by conv=>lhs;cbv⟩
def aJ0:GF 6 [.tmp 2] .shut Tryz.f102:=⟨_,by conv=>lhs;cbv⟩
def aIN:GF 16 [] .pass Tryz.f124:=⟨_,by conv=>lhs;cbv⟩
def aQr:GF 28 [] .pass Tryz.f144 (kpL aL [] [[0],[0,2,3],[0,2,3],[0,2,3]]):=⟨_,by conv=>lhs;reduce⟩
def aEx:GF 1 [.tmp 0] .pass Tryz.f148:=⟨_,by conv=>lhs;cbv⟩
def aJ2:GF 40 [.tmp 8,.tmp 9] .pass Tryz.f157 (kpL aL [] [[0,1,2,3],[4,5,6,7],[],[4,5,6,7],[4,5,7,10,11],[11],[4,5,7,10]]):=⟨_,by conv=>lhs;reduce⟩
def aIo:GF 28 [.cell 2 131,.tmp 3] .shut Tryz.f159 (kpL aL [] [[0],[1,2],[2],[1,2]]):=⟨_,by conv=>lhs;reduce⟩
def KM:GF 123 [.cell 8 133,.tmp 9,.tmp 10,.tmp 11] .shut Tryz.f160:=⟨_,by conv=>lhs;cbv⟩
def Y0:GF 19 [.tmp 4] .pass Tryz.f163:=⟨_,by conv=>lhs;cbv⟩
def DI:Got (lpM Y0.m 0):=⟨_,by conv=>lhs;cbv⟩
def QX:M:=DI.m
theorem aHc:UL QX DI.m:=ul
def aIL:GF 75 [.cell 10 133,.tmp 11,.tmp 12,.tmp 13] .shut Tryz.f167 (kpL aL [] [[0,1,2,3,4],[2,5,6,8,9,10],[8,10],[2,5,6,8,9,10],[2,5,6,8,9,10,14],[2,5,6,8,9,10,14,16,17],[8,10],[2,5,6,8,9,10,14,16],[5,9,10,18],[5,10,18]]):=⟨_,by conv=>lhs;reduce⟩
def aIv:GF 20 [] .pass Tryz.f171 (kpL aL [] [[0,1,2,3,4],[1,3,4]]):=⟨_,by conv=>lhs;reduce⟩
def aD5:GF 19 [.tmp 4] .shut Tryz.f174 (kpL aL [] [[0,1],[0,3],[0,3,7,8],[0,3,7,8],[0,3,5,7,8],[5],[0,3,7,8],[]]):=⟨_,by conv=>lhs;reduce⟩
def FL:Got (lpM aD5.m 0):=⟨_,by conv=>lhs;cbv⟩
def UZ:M:=FL.m
theorem aEX:UL UZ FL.m:=ul
def aUc:GF 65 [.tmp 4] .shut Tryz.f186 (kpL aL [] [[0,1],[2,3],[2,3,5],[2,3,5,6],[2,3,5,6,7,8],[5,6,7,8,38],[5,6,8],[5,6,7,8,38],[5,6,7,8,38],[5,6,7,8,38],[5,6,7],[5,6,7,8,38],[5,6,7,8],[],[5,7,8]]):=⟨_,by conv=>lhs;reduce⟩
def aAS:GF 26 [.tmp 4,.tmp 5] .shut Tryz.f191:=⟨_,by conv=>lhs;cbv⟩
def D6:Got (lpM aAS.m 0):=⟨_,by conv=>lhs;cbv⟩
def SR:M:=D6.m
theorem aFg:UL SR D6.m:=ul
def aHa:GF 9 [.tmp 4] .shut Tryz.f192:=⟨_,by conv=>lhs;cbv⟩
def aFh:GF 7 [.tmp 2] .shut Tryz.f193:=⟨_,by conv=>lhs;cbv⟩
def aHH:GF 27 [.tmp 4] .pass Tryz.f199:=⟨_,by conv=>lhs;cbv⟩
def aKq:GF 7 [.tmp 4] .shut Tryz.f205:=⟨_,by conv=>lhs;cbv⟩
def aJU:GF 8 [] .pass Tryz.f207:=⟨_,by conv=>lhs;cbv⟩
def aFw:GF 16 [] .pass Tryz.f208:=⟨_,by conv=>lhs;cbv⟩
def aQp:GF 22 [] .pass Tryz.f212 (kpL aL [] [[0,1,2,3,4]]):=⟨_,by conv=>lhs;reduce⟩
def aPl:GF 33 [] .pass Tryz.f213:=⟨_,by conv=>lhs;cbv⟩
def aOF:GF 22 [] .pass Tryz.f215 (kpL aL [] [[0,1,2,3,4]]):=⟨_,by conv=>lhs;reduce⟩
def aGm:GF 21 [.tmp 2] .pass Tryz.f224:=⟨_,by conv=>lhs;cbv⟩
def aEI:GF 11 [.tmp 3] .pass Tryz.f227:=⟨_,by conv=>lhs;cbv⟩
def JZ:GF 36 [] .pass Tryz.f232:=⟨_,by conv=>lhs;cbv⟩
def DL:Got (lpM JZ.m 0):=⟨_,by conv=>lhs;cbv⟩
def UU:M:=DL.m
theorem aJ4:UL UU DL.m:=ul
def FP:Got (lpM JZ.m 1):=⟨_,by conv=>lhs;cbv⟩
def UH:M:=FP.m
theorem aEW:UL UH FP.m:=ul
def DQ:Got (lpM JZ.m 2):=⟨_,by conv=>lhs;cbv⟩
def SJ:M:=DQ.m
theorem aHd:UL SJ DQ.m:=ul
def CG:Got (lpM JZ.m 3):=⟨_,by conv=>lhs;cbv⟩
def UV:M:=CG.m
theorem aIO:UL UV CG.m:=ul
def aQb:GF 2 [.cell 0 285] .shut Tryz.f233:=⟨_,by conv=>lhs;cbv⟩
def aGD:GF 36 [.tmp 2] .pass Tryz.f238 (kpL aL [] [[0],[0],[0],[]]):=⟨_,by conv=>lhs;reduce⟩
def aGW:GF 27 [.cell 4 133,.tmp 5] .shut Tryz.f243:=⟨_,by conv=>lhs;cbv⟩
def aFj:GF 20 [] .pass Tryz.f244 (kpL aL [] [[0,1,2,3]]):=⟨_,by conv=>lhs;reduce⟩
def aJb:GF 12 [.tmp 4] .shut Tryz.f246:=⟨_,by conv=>lhs;cbv⟩
def aKd:GF 17 [.tmp 4] .shut Tryz.f247:=⟨_,by conv=>lhs;cbv⟩
def aBy:GF 36 [.cell 6 36,.tmp 7] .pass Tryz.f249:=⟨_,by conv=>lhs;cbv⟩
def Y8:GF 71 [.cell 4 133,.tmp 5,.tmp 6,.tmp 7] .pass Tryz.f253 (kpL aL [] [[0,1],[0,1,4],[0,1,4,8],[1,4,8,9,10],[4,8,10],[1,4,8,9],[1,4,8,9,36,37],[1,4,8,9,36,37],[1,4,8,9,11,12,36,37],[1,4,8,9,12,36,37],[1,4,8,9,36,37],[1,4,8,9],[1,4,8,13],[4,8,13],[1,4]]):=⟨_,by conv=>lhs;reduce⟩
def FZ:Got (lpM Y8.m 0):=⟨_,by conv=>lhs;cbv⟩
def iH:M:=FZ.m
theorem aJ5:UL iH FZ.m:=ul
def aIM:GF 8 [.tmp 6] .pass Tryz.f257:=⟨_,by conv=>lhs;cbv⟩
def aBE:GF 22 [] .pass Tryz.f263:=⟨_,by conv=>lhs;cbv⟩
def DG:Got (lpM aBE.m 0):=⟨_,by conv=>lhs;cbv⟩
def fJ:M:=DG.m
theorem aGB:UL fJ DG.m:=ul
def aCJ:GF 40 [] .pass Tryz.f264 (kpL aL [] [[0,1,2],[0,1,2,4],[0,2,4,9,10,11],[0,2,4,9,10,11],[0,2,4,5,6,9,10,11],[0,2,4,5,7,9,10,11],[0,2,4,5,7,9,10,11],[0,2,4,9,10,11]]):=⟨_,by conv=>lhs;reduce⟩
def DK:Got (lpM aCJ.m 0):=⟨_,by conv=>lhs;cbv⟩
def E0:M:=DK.m
theorem aKo:UL E0 DK.m:=ul
def aFZ:GF 35 [.tmp 2] .shut Tryz.f266:=⟨_,by conv=>lhs;cbv⟩
def aJq:GF 25 [.tmp 4] .shut Tryz.f267 (kpL aL [] [[0,1],[1,2],[1,5,6],[],[1,5]]):=⟨_,by conv=>lhs;reduce⟩
def aR5:GF 24 [.tmp 3] .shut Tryz.f274:=⟨_,by conv=>lhs;cbv⟩
def VN:GF 24 [] .pass Tryz.f282:=⟨_,by conv=>lhs;cbv⟩
def F7:Got (lpM VN.m 0):=⟨_,by conv=>lhs;cbv⟩
def Q1:M:=F7.m
theorem aFK:UL Q1 F7.m:=ul
def F3:Got (lpM VN.m 1):=⟨_,by conv=>lhs;cbv⟩
def SL:M:=F3.m
theorem aJR:UL SL F3.m:=ul
def aJX:GF 63 [] .pass Tryz.f283:=⟨_,by conv=>lhs;cbv⟩
def aI8:GF 6 [.tmp 2] .shut Tryz.f284:=⟨_,by conv=>lhs;cbv⟩
def YT:GF 53 [] .pass Tryz.f285 (kpL aL [] [[0,1,2,3],[0,1,2,3,8],[0,1,2,3,8],[0,1,2,3,8],[0,1,2,3,8,9],[0,1,2,3,8,9],[0,1,2,3,8,9]]):=⟨_,by conv=>lhs;reduce⟩
def EZ:Got (lpM YT.m 0):=⟨_,by conv=>lhs;cbv⟩
def SQ:M:=EZ.m
theorem aK9:UL SQ EZ.m:=ul
def D0:Got (lpM YT.m 1):=⟨_,by conv=>lhs;cbv⟩
def O5:M:=D0.m
theorem aEK:UL O5 D0.m:=ul
def aQv:GF 19 [.tmp 2] .shut Tryz.f287:=⟨_,by conv=>lhs;cbv⟩
def aEg:GF 55 [.tmp 2] .shut Tryz.f292:=⟨_,by conv=>lhs;cbv⟩
def FS:Got (lpM aEg.m 0):=⟨_,by conv=>lhs;cbv⟩
def UP:M:=FS.m
theorem aKe:UL UP FS.m:=ul
def aFG:GF 21 [] .pass Tryz.f297 (kpL aL [] [[0,1],[0,1]]):=⟨_,by conv=>lhs;reduce⟩
def aIP:GF 101 [.tmp 4] .pass Tryz.f304 (kpL aL [] [[0,1],[0,1],[0,1],[0,12],[0],[0,12],[0,12],[0,12],[0,12],[0],[0],[0],[0,5,6],[6],[0,5],[0],[0],[0],[0],[]]):=⟨_,by conv=>lhs;reduce⟩
def aFM:GF 30 [.tmp 4] .shut Tryz.f306:=⟨_,by conv=>lhs;cbv⟩
def aKt:GF 20 [] .pass Tryz.f308 (kpL aL [] [[0]]):=⟨_,by conv=>lhs;reduce⟩
def aGP:GF 22 [] .pass Tryz.f310 (kpL aL [] [[0],[0]]):=⟨_,by conv=>lhs;reduce⟩
def aHt:GF 26 [] .pass Tryz.f311 (kpL aL [] [[0],[0]]):=⟨_,by conv=>lhs;reduce⟩
def aIn:GF 12 [] .pass Tryz.f315:=⟨_,by conv=>lhs;cbv⟩
def aIQ:GF 27 [] .pass Tryz.f317 (kpL aL [] [[0],[0],[0]]):=⟨_,by conv=>lhs;reduce⟩
def aGL:GF 11 [] .pass Tryz.f318:=⟨_,by conv=>lhs;cbv⟩
def aFs:GF 4 [.tmp 2] .pass Tryz.f331:=⟨_,by conv=>lhs;cbv⟩
def aHP:GF 16 [.tmp 1] .pass Tryz.f336:=⟨_,by conv=>lhs;cbv⟩
def aLi:GF 67 [.cell 2 97] .pass Tryz.f338:=⟨_,by conv=>lhs;cbv⟩
def aFi:GF 18 [.tmp 1] .pass Tryz.f340 (kpL aL [] [[0],[0]]):=⟨_,by conv=>lhs;reduce⟩
def aLg:GF 56 [.tmp 2] .pass Tryz.f345:=⟨_,by conv=>lhs;cbv⟩
def aKr:GF 55 [.tmp 4,.tmp 5] .pass Tryz.f351:=⟨_,by conv=>lhs;cbv⟩
def aIT:GF 16 [.tmp 4] .pass Tryz.f355 (kpL aL [] [[0,1,2],[0,1,2]]):=⟨_,by conv=>lhs;reduce⟩
def aI9:GF 8 [] .pass Tryz.f358:=⟨_,by conv=>lhs;cbv⟩
def aHK:GF 11 [] .pass Tryz.f362:=⟨_,by conv=>lhs;cbv⟩
def aIl:GF 5 [] .pass Tryz.f365:=⟨_,by conv=>lhs;cbv⟩
def aFQ:GF 29 [.cell 6 133] .shut Tryz.f367:=⟨_,by conv=>lhs;cbv⟩
def VS:GF 30 [.tmp 2] .shut Tryz.f378:=⟨_,by conv=>lhs;cbv⟩
def aPa:GF 22 [] .pass Tryz.f379 (kpL aL [] [[0,1,2],[0,1,2],[0,2]]):=⟨_,by conv=>lhs;reduce⟩
def aGE:GF 28 [.cell 4 128] .shut Tryz.f384 (kpL aL [] [[0,1],[1,2,4],[2,4],[1,2,4]]):=⟨_,by conv=>lhs;reduce⟩
def aNK:GF 3 [.tmp 0] .shut Tryz.f386:=⟨_,by conv=>lhs;cbv⟩
def YV:GF 50 [] .pass Tryz.f388 (kpL aL [] [[0],[0],[0],[0],[0]]):=⟨_,by conv=>lhs;reduce⟩
def DT:Got (lpM YV.m 0):=⟨_,by conv=>lhs;cbv⟩
def QP:M:=DT.m
theorem aK3:UL QP DT.m:=ul
def C0:Got (lpM YV.m 1):=⟨_,by conv=>lhs;cbv⟩
def RF:M:=C0.m
theorem aIH:UL RF C0.m:=ul
def aFN:GF 13 [.tmp 2] .pass Tryz.f391 (kpL aL [] [[0],[0]]):=⟨_,by conv=>lhs;reduce⟩
