/- The evaluator's context: types and bodies, and that they are the program's. Printed by wip/ev/gen/ctx.py. -/
import Derived.Test.YtpdphobnchajbaaGreatDoorK07
import Derived.Test.YtpdphobnchajbaaGreatDoorK05
set_option linter.all false
namespace Go.Proofs.YtpdphobnchajbaaGreatDoor.Ev
open Go Go.RowKit
set_option maxRecDepth 100000
def aRL:List (Nat×List Value):=[(8,[.int .u8 0,.int .u8 1,.int .u8 28,.int .u8 2,.int .u8 29,.int .u8 14,.int .u8 24,.int .u8 3,.int .u8 30,.int .u8 22,.int .u8 20,.int .u8 15,.int .u8 25,.int .u8 17,.int .u8 4,.int .u8 8,.int .u8 31,.int .u8 27,.int .u8 13,.int .u8 23,.int .u8 21,.int .u8 19,.int .u8 16,.int .u8 7,.int .u8 26,.int .u8 12,.int .u8 18,.int .u8 6,.int .u8 11,.int .u8 5,.int .u8 10,.int .u8 9]),(9,[.int .u8 0,.int .u8 1,.int .u8 56,.int .u8 2,.int .u8 57,.int .u8 49,.int .u8 28,.int .u8 3,.int .u8 61,.int .u8 58,.int .u8 42,.int .u8 50,.int .u8 38,.int .u8 29,.int .u8 17,.int .u8 4,.int .u8 62,.int .u8 47,.int .u8 59,.int .u8 36,.int .u8 45,.int .u8 43,.int .u8 51,.int .u8 22,.int .u8 53,.int .u8 39,.int .u8 33,.int .u8 30,.int .u8 24,.int .u8 18,.int .u8 12,.int .u8 5,.int .u8 63,.int .u8 55,.int .u8 48,.int .u8 27,.int .u8 60,.int .u8 41,.int .u8 37,.int .u8 16,.int .u8 46,.int .u8 35,.int .u8 44,.int .u8 21,.int .u8 52,.int .u8 32,.int .u8 23,.int .u8 11,.int .u8 54,.int .u8 26,.int .u8 40,.int .u8 15,.int .u8 34,.int .u8 20,.int .u8 31,.int .u8 10,.int .u8 25,.int .u8 14,.int .u8 19,.int .u8 9,.int .u8 13,.int .u8 8,.int .u8 7,.int .u8 6]),(5,[.int .u64 1,.int .u64 10,.int .u64 100,.int .u64 1000,.int .u64 10000,.int .u64 100000,.int .u64 1000000,.int .u64 10000000,.int .u64 100000000,.int .u64 1000000000,.int .u64 10000000000,.int .u64 100000000000,.int .u64 1000000000000,.int .u64 10000000000000,.int .u64 100000000000000,.int .u64 1000000000000000,.int .u64 10000000000000000,.int .u64 100000000000000000,.int .u64 1000000000000000000,.int .u64 10000000000000000000]),(11,[.int .u8 128,.int .u8 191,.int .u8 160,.int .u8 191,.int .u8 128,.int .u8 159,.int .u8 144,.int .u8 191,.int .u8 128,.int .u8 143,.int .u8 0,.int .u8 0,.int .u8 0,.int .u8 0,.int .u8 0,.int .u8 0,.int .u8 0,.int .u8 0,.int .u8 0,.int .u8 0,.int .u8 0,.int .u8 0,.int .u8 0,.int .u8 0,.int .u8 0,.int .u8 0,.int .u8 0,.int .u8 0,.int .u8 0,.int .u8 0,.int .u8 0,.int .u8 0]),(0,[.int .i64 4,.int .i64 2,.int .i64 4,.int .i64 4,.int .i64 4]),(4,[.int .u8 0,.int .u8 35,.int .u8 38,.int .u8 29,.int .u8 7,.int .u8 7,.int .u8 15,.int .u8 32,.int .u8 92]),(2,[.int .u8 0,.int .u8 1,.int .u8 1,.int .u8 1,.int .u8 3,.int .u8 3,.int .u8 2,.int .u8 2,.int .u8 2,.int .u8 2,.int .u8 3,.int .u8 3,.int .u8 3]),(1,[.string ⟨#[]⟩,.string ⟨#[71,101,116,83]⟩,.string ⟨#[71,101,116,77]⟩,.string ⟨#[80,117,116]⟩,.string ⟨#[68,111,110,101]⟩,.string ⟨#[67,111,112,121]⟩,.string ⟨#[70,119,100,83]⟩,.string ⟨#[70,119,100,77]⟩,.string ⟨#[73,110,118]⟩,.string ⟨#[80,117,116,65,99,107]⟩,.string ⟨#[86,97,108,117,101]⟩,.string ⟨#[71,114,97,110,116]⟩,.string ⟨#[73,110,118,65,99,107]⟩])]
def aOb:BT Ty:=(.node 146 Q7.t (.node 56 KH.t (.node 36 aJs.t (.node 23 aJX.t (.node 5 th5.t (.node 3 th3.t (.node 1 th1.t .nil .nil) (.node 4 th4.t .nil .nil)) (.node 20 aGu.t (.node 9 th9.t .nil .nil) (.node 22 aH8.t .nil .nil))) (.node 29 aJB.t (.node 25 aKs.t (.node 24 aIE.t .nil .nil) (.node 27 aGF.t .nil .nil)) (.node 33 aGG.t (.node 31 aGY.t .nil .nil) (.node 34 aJ6.t .nil .nil)))) (.node 46 aKm.t (.node 40 aEV (.node 38 aG2 (.node 37 aFe .nil .nil) (.node 39 aJS.t .nil .nil)) (.node 44 aIQ (.node 42 aG8 .nil .nil) (.node 45 aEd.t .nil .nil))) (.node 51 aIC.t (.node 48 aHe.t (.node 47 aJc.t .nil .nil) (.node 50 aEy.t .nil .nil)) (.node 54 aF5.t (.node 52 aHg.t .nil .nil) (.node 55 aIt .nil .nil))))) (.node 101 RY.t (.node 75 aHC.t (.node 63 aJZ.t (.node 60 WT.t (.node 58 aFN.t .nil .nil) (.node 62 aKo.t .nil .nil)) (.node 68 aEc.t (.node 65 aJt.t .nil .nil) (.node 69 aIA.t .nil .nil))) (.node 95 aHH.t (.node 91 aEi.t (.node 77 aFi.t .nil .nil) (.node 93 aHq.t .nil .nil)) (.node 97 MO.t (.node 96 aIG.t .nil .nil) (.node 99 aIM.t .nil .nil)))) (.node 121 RQ.t (.node 115 OW (.node 112 RK.t (.node 107 SQ.t .nil .nil) (.node 114 PO.t .nil .nil)) (.node 118 PA.t (.node 116 SA .nil .nil) (.node 119 T4.t .nil .nil))) (.node 130 TX.t (.node 125 P5.t (.node 123 R7 .nil .nil) (.node 127 PD.t .nil .nil)) (.node 134 P7 (.node 131 RA.t .nil .nil) (.node 144 QO.t .nil .nil)))))) (.node 320 SE.t (.node 215 OL.t (.node 177 TZ.t (.node 167 T7.t (.node 154 QX.t (.node 148 PX.t .nil .nil) (.node 163 S8.t .nil .nil)) (.node 171 O3.t (.node 169 SL.t .nil .nil) (.node 172 OP.t .nil .nil))) (.node 189 B3.t (.node 181 OO.t (.node 179 UB.t .nil .nil) (.node 185 OM.t .nil .nil)) (.node 211 SD.t (.node 199 PR.t .nil .nil) (.node 213 RB.t .nil .nil)))) (.node 283 P1.t (.node 254 SR.t (.node 240 P9.t (.node 217 RD.t .nil .nil) (.node 253 T6.t .nil .nil)) (.node 265 RO.t (.node 261 Q2.t .nil .nil) (.node 282 RU.t .nil .nil))) (.node 299 PL.t (.node 286 O7.t (.node 285 SW.t .nil .nil) (.node 296 RW.t .nil .nil)) (.node 316 QJ.t (.node 309 SF.t .nil .nil) (.node 318 OE.t .nil .nil))))) (.node 362 O4.t (.node 342 OZ.t (.node 329 O1.t (.node 325 QB.t (.node 323 PT.t .nil .nil) (.node 328 RZ.t .nil .nil)) (.node 335 TM.t (.node 332 TL.t .nil .nil) (.node 340 RH.t .nil .nil))) (.node 355 OT.t (.node 351 SX.t (.node 344 PQ.t .nil .nil) (.node 352 TO.t .nil .nil)) (.node 359 OG.t (.node 358 Q3.t .nil .nil) (.node 360 RN.t .nil .nil)))) (.node 400 R6.t (.node 372 SO.t (.node 369 S9.t (.node 364 Q6.t .nil .nil) (.node 371 Q8.t .nil .nil)) (.node 376 PG.t (.node 374 TW.t .nil .nil) (.node 393 TS.t .nil .nil))) (.node 433 R8.t (.node 428 TH.t (.node 405 SU.t .nil .nil) (.node 430 TU.t .nil .nil)) (.node 447 Q4 (.node 444 RC.t .nil .nil) .nil))))))
def aNz:BT MFn:=(.node 172 aEj.fn (.node 89 g89.fn (.node 50 g50.fn (.node 31 g31.fn (.node 18 g18.fn (.node 11 g11.fn (.node 9 g9.fn (.node 8 g8.fn (.node 5 g5.fn .nil .nil) .nil) (.node 10 g10.fn .nil .nil)) (.node 16 g16.fn (.node 15 g15.fn (.node 14 g14.fn .nil .nil) .nil) (.node 17 g17.fn .nil .nil))) (.node 27 g27.fn (.node 22 g22.fn (.node 21 g21.fn (.node 19 g19.fn .nil .nil) .nil) (.node 23 g23.fn .nil .nil)) (.node 29 g29.fn (.node 28 g28.fn .nil .nil) (.node 30 g30.fn .nil .nil)))) (.node 41 g41.fn (.node 36 g36.fn (.node 34 g34.fn (.node 33 g33.fn (.node 32 g32.fn .nil .nil) .nil) (.node 35 g35.fn .nil .nil)) (.node 39 g39.fn (.node 38 g38.fn (.node 37 g37.fn .nil .nil) .nil) (.node 40 g40.fn .nil .nil))) (.node 46 g46.fn (.node 44 g44.fn (.node 43 g43.fn (.node 42 g42.fn .nil .nil) .nil) (.node 45 g45.fn .nil .nil)) (.node 48 g48.fn (.node 47 g47.fn .nil .nil) (.node 49 g49.fn .nil .nil))))) (.node 69 g69.fn (.node 60 g60.fn (.node 55 g55.fn (.node 53 g53.fn (.node 52 g52.fn (.node 51 g51.fn .nil .nil) .nil) (.node 54 g54.fn .nil .nil)) (.node 58 g58.fn (.node 57 g57.fn (.node 56 g56.fn .nil .nil) .nil) (.node 59 g59.fn .nil .nil))) (.node 65 g65.fn (.node 63 g63.fn (.node 62 g62.fn (.node 61 g61.fn .nil .nil) .nil) (.node 64 g64.fn .nil .nil)) (.node 67 g67.fn (.node 66 g66.fn .nil .nil) (.node 68 g68.fn .nil .nil)))) (.node 80 g80.fn (.node 74 g74.fn (.node 72 g72.fn (.node 71 g71.fn (.node 70 g70.fn .nil .nil) .nil) (.node 73 g73.fn .nil .nil)) (.node 78 g78.fn (.node 76 g76.fn (.node 75 g75.fn .nil .nil) .nil) (.node 79 g79.fn .nil .nil))) (.node 85 g85.fn (.node 83 g83.fn (.node 82 g82.fn (.node 81 g81.fn .nil .nil) .nil) (.node 84 g84.fn .nil .nil)) (.node 87 g87.fn (.node 86 g86.fn .nil .nil) (.node 88 g88.fn .nil .nil)))))) (.node 130 aIf.fn (.node 111 aKn.fn (.node 102 aQ0.fn (.node 95 g95.fn (.node 93 g93.fn (.node 92 g92.fn (.node 91 g91.fn .nil .nil) .nil) (.node 94 g94.fn .nil .nil)) (.node 99 g99.fn (.node 98 g98.fn (.node 97 g97.fn .nil .nil) .nil) (.node 101 aMB.fn .nil .nil))) (.node 107 aIy.fn (.node 105 aHr.fn (.node 104 aHz.fn (.node 103 VT.fn .nil .nil) .nil) (.node 106 aHV.fn .nil .nil)) (.node 109 aHd.fn (.node 108 aJj.fn .nil .nil) (.node 110 aFV.fn .nil .nil)))) (.node 121 aIH.fn (.node 116 X3.fn (.node 114 aHa.fn (.node 113 aEL.fn (.node 112 NI.fn .nil .nil) .nil) (.node 115 aJd.fn .nil .nil)) (.node 119 aI8.fn (.node 118 aIj.fn (.node 117 aI5.fn .nil .nil) .nil) (.node 120 aD2.fn .nil .nil))) (.node 126 aE4.fn (.node 124 aGX.fn (.node 123 aFT.fn (.node 122 aFk.fn .nil .nil) .nil) (.node 125 aKf.fn .nil .nil)) (.node 128 aBi.fn (.node 127 aJp.fn .nil .nil) (.node 129 X8.fn .nil .nil))))) (.node 149 aGV.fn (.node 140 aEf.fn (.node 135 aHT.fn (.node 133 Z5.fn (.node 132 aHy.fn (.node 131 aHu.fn .nil .nil) .nil) (.node 134 aIz.fn .nil .nil)) (.node 138 WS.fn (.node 137 aFE.fn (.node 136 aJw.fn .nil .nil) .nil) (.node 139 aDR.fn .nil .nil))) (.node 145 aPS.fn (.node 143 aN6.fn (.node 142 H6.fn (.node 141 aGg.fn .nil .nil) .nil) (.node 144 aPX.fn .nil .nil)) (.node 147 aEw.fn (.node 146 aPk.fn .nil .nil) (.node 148 aAH.fn .nil .nil)))) (.node 163 aGw.fn (.node 157 aFG.fn (.node 153 aFl.fn (.node 151 aDM.fn (.node 150 aKh.fn .nil .nil) .nil) (.node 154 aEu.fn .nil .nil)) (.node 161 aOC.fn (.node 159 aIu.fn (.node 158 LI.fn .nil .nil) .nil) (.node 162 aMF.fn .nil .nil))) (.node 168 aIo.fn (.node 166 aCZ.fn (.node 165 aIn.fn (.node 164 aR5.fn .nil .nil) .nil) (.node 167 aJM.fn .nil .nil)) (.node 170 aGv.fn (.node 169 aEx.fn .nil .nil) (.node 171 aFn.fn .nil .nil))))))) (.node 254 aJQ.fn (.node 213 aBK.fn (.node 191 aGo.fn (.node 182 aGd.fn (.node 177 aJA.fn (.node 175 aKl.fn (.node 174 aEF.fn (.node 173 aHM.fn .nil .nil) .nil) (.node 176 aH7.fn .nil .nil)) (.node 180 aAQ.fn (.node 179 aH9.fn (.node 178 aKd.fn .nil .nil) .nil) (.node 181 aEA.fn .nil .nil))) (.node 187 aHX.fn (.node 185 aE0.fn (.node 184 aBf.fn (.node 183 UD.fn .nil .nil) .nil) (.node 186 aDp.fn .nil .nil)) (.node 189 V7.fn (.node 188 aFh.fn .nil .nil) (.node 190 aJK.fn .nil .nil)))) (.node 201 aDj.fn (.node 196 aG0.fn (.node 194 aE5.fn (.node 193 aFB.fn (.node 192 aGT.fn .nil .nil) .nil) (.node 195 aEv.fn .nil .nil)) (.node 199 aEt.fn (.node 198 ZY.fn (.node 197 YR.fn .nil .nil) .nil) (.node 200 UI.fn .nil .nil))) (.node 206 YD.fn (.node 204 aAX.fn (.node 203 aGn.fn (.node 202 aJk.fn .nil .nil) .nil) (.node 205 aGm.fn .nil .nil)) (.node 210 aGB.fn (.node 209 aAE.fn .nil .nil) (.node 212 aID.fn .nil .nil))))) (.node 235 aHA.fn (.node 226 aJT.fn (.node 220 aJg.fn (.node 218 aHv.fn (.node 217 aJe.fn (.node 214 aBT.fn .nil .nil) .nil) (.node 219 aFg.fn .nil .nil)) (.node 223 aEr.fn (.node 222 aFf.fn (.node 221 U3.fn .nil .nil) .nil) (.node 224 aJz.fn .nil .nil))) (.node 231 aFW.fn (.node 229 aE3.fn (.node 228 aEU.fn (.node 227 aNy.fn .nil .nil) .nil) (.node 230 aGC.fn .nil .nil)) (.node 233 aJv.fn (.node 232 aId.fn .nil .nil) (.node 234 aFs.fn .nil .nil)))) (.node 245 aIN.fn (.node 240 aFF.fn (.node 238 aFX.fn (.node 237 aI9.fn (.node 236 aIF.fn .nil .nil) .nil) (.node 239 aD5.fn .nil .nil)) (.node 243 aHE.fn (.node 242 aIU.fn (.node 241 aIJ.fn .nil .nil) .nil) (.node 244 aKi.fn .nil .nil))) (.node 250 aLQ.fn (.node 248 aFv.fn (.node 247 aIi.fn (.node 246 aKq.fn .nil .nil) .nil) (.node 249 aGf.fn .nil .nil)) (.node 252 aJb.fn (.node 251 aEO.fn .nil .nil) (.node 253 aBe.fn .nil .nil)))))) (.node 306 aGJ.fn (.node 287 aJq.fn (.node 264 aJr.fn (.node 259 aJY.fn (.node 257 aHs.fn (.node 256 aGb.fn (.node 255 aJP.fn .nil .nil) .nil) (.node 258 aFR.fn .nil .nil)) (.node 262 aIR.fn (.node 261 aEW.fn (.node 260 aGl.fn .nil .nil) .nil) (.node 263 aJx.fn .nil .nil))) (.node 277 aHf.fn (.node 275 aI1.fn (.node 271 aFj.fn (.node 265 aRR.fn .nil .nil) .nil) (.node 276 aJI.fn .nil .nil)) (.node 285 aBD.fn (.node 284 aDI.fn .nil .nil) (.node 286 aQC.fn .nil .nil)))) (.node 297 aFD.fn (.node 292 aFa.fn (.node 290 aGR.fn (.node 289 aFz.fn (.node 288 aFc.fn .nil .nil) .nil) (.node 291 aH6.fn .nil .nil)) (.node 295 aGr.fn (.node 294 aI2.fn (.node 293 aJ1.fn .nil .nil) .nil) (.node 296 aIK.fn .nil .nil))) (.node 302 aEC.fn (.node 300 aFw.fn (.node 299 aIk.fn (.node 298 aHk.fn .nil .nil) .nil) (.node 301 aFr.fn .nil .nil)) (.node 304 aGH.fn (.node 303 ZA.fn .nil .nil) (.node 305 aB5.fn .nil .nil))))) (.node 338 aNG.fn (.node 316 Z8.fn (.node 311 aHt.fn (.node 309 X5.fn (.node 308 aDi.fn (.node 307 aIr.fn .nil .nil) .nil) (.node 310 WK.fn .nil .nil)) (.node 314 aO1.fn (.node 313 aRC.fn (.node 312 ZW.fn .nil .nil) .nil) (.node 315 aDK.fn .nil .nil))) (.node 334 aEB.fn (.node 332 aF0.fn (.node 331 ZC.fn (.node 330 aCG.fn .nil .nil) .nil) (.node 333 aIP.fn .nil .nil)) (.node 336 aEI.fn (.node 335 aHZ.fn .nil .nil) (.node 337 WM.fn .nil .nil)))) (.node 349 aIl.fn (.node 343 N0.fn (.node 341 aIe.fn (.node 340 aHb.fn (.node 339 V3.fn .nil .nil) .nil) (.node 342 aIv.fn .nil .nil)) (.node 346 aOn.fn (.node 344 aO3.fn .nil .nil) (.node 348 aMb.fn .nil .nil))) (.node 354 aCT.fn (.node 352 aJE.fn (.node 351 aFM.fn (.node 350 aHU.fn .nil .nil) .nil) (.node 353 aJF.fn .nil .nil)) (.node 356 aB6.fn (.node 355 aDo.fn .nil .nil) (.node 357 aJU.fn .nil .nil))))))))
def Cz:Ctx:=⟨⟨aOb.get,⟨xI aRL,aDl,aVm⟩⟩,aNz.get,pS,GT⟩
theorem FA:kN Tryz.prog Cz:=aCk (by kernel_rfl) ⟨Q7.h,⟨KH.h,⟨aJs.h,⟨aJX.h,⟨th5.h,⟨th3.h,⟨th1.h,⟨⟩,⟨⟩⟩,⟨th4.h,⟨⟩,⟨⟩⟩⟩,⟨aGu.h,⟨th9.h,⟨⟩,⟨⟩⟩,⟨aH8.h,⟨⟩,⟨⟩⟩⟩⟩,⟨aJB.h,⟨aKs.h,⟨aIE.h,⟨⟩,⟨⟩⟩,⟨aGF.h,⟨⟩,⟨⟩⟩⟩,⟨aGG.h,⟨aGY.h,⟨⟩,⟨⟩⟩,⟨aJ6.h,⟨⟩,⟨⟩⟩⟩⟩⟩,⟨aKm.h,⟨(show rY Tryz.prog 40=some aEV by kernel_rfl),⟨(show rY Tryz.prog 38=some aG2 by kernel_rfl),⟨(show rY Tryz.prog 37=some aFe by kernel_rfl),⟨⟩,⟨⟩⟩,⟨aJS.h,⟨⟩,⟨⟩⟩⟩,⟨(show rY Tryz.prog 44=some aIQ by kernel_rfl),⟨(show rY Tryz.prog 42=some aG8 by kernel_rfl),⟨⟩,⟨⟩⟩,⟨aEd.h,⟨⟩,⟨⟩⟩⟩⟩,⟨aIC.h,⟨aHe.h,⟨aJc.h,⟨⟩,⟨⟩⟩,⟨aEy.h,⟨⟩,⟨⟩⟩⟩,⟨aF5.h,⟨aHg.h,⟨⟩,⟨⟩⟩,⟨(show rY Tryz.prog 55=some aIt by kernel_rfl),⟨⟩,⟨⟩⟩⟩⟩⟩⟩,⟨RY.h,⟨aHC.h,⟨aJZ.h,⟨WT.h,⟨aFN.h,⟨⟩,⟨⟩⟩,⟨aKo.h,⟨⟩,⟨⟩⟩⟩,⟨aEc.h,⟨aJt.h,⟨⟩,⟨⟩⟩,⟨aIA.h,⟨⟩,⟨⟩⟩⟩⟩,⟨aHH.h,⟨aEi.h,⟨aFi.h,⟨⟩,⟨⟩⟩,⟨aHq.h,⟨⟩,⟨⟩⟩⟩,⟨MO.h,⟨aIG.h,⟨⟩,⟨⟩⟩,⟨aIM.h,⟨⟩,⟨⟩⟩⟩⟩⟩,⟨RQ.h,⟨(show rY Tryz.prog 115=some OW by kernel_rfl),⟨RK.h,⟨SQ.h,⟨⟩,⟨⟩⟩,⟨PO.h,⟨⟩,⟨⟩⟩⟩,⟨PA.h,⟨(show rY Tryz.prog 116=some SA by kernel_rfl),⟨⟩,⟨⟩⟩,⟨T4.h,⟨⟩,⟨⟩⟩⟩⟩,⟨TX.h,⟨P5.h,⟨(show rY Tryz.prog 123=some R7 by kernel_rfl),⟨⟩,⟨⟩⟩,⟨PD.h,⟨⟩,⟨⟩⟩⟩,⟨(show rY Tryz.prog 134=some P7 by kernel_rfl),⟨RA.h,⟨⟩,⟨⟩⟩,⟨QO.h,⟨⟩,⟨⟩⟩⟩⟩⟩⟩⟩,⟨SE.h,⟨OL.h,⟨TZ.h,⟨T7.h,⟨QX.h,⟨PX.h,⟨⟩,⟨⟩⟩,⟨S8.h,⟨⟩,⟨⟩⟩⟩,⟨O3.h,⟨SL.h,⟨⟩,⟨⟩⟩,⟨OP.h,⟨⟩,⟨⟩⟩⟩⟩,⟨B3.h,⟨OO.h,⟨UB.h,⟨⟩,⟨⟩⟩,⟨OM.h,⟨⟩,⟨⟩⟩⟩,⟨SD.h,⟨PR.h,⟨⟩,⟨⟩⟩,⟨RB.h,⟨⟩,⟨⟩⟩⟩⟩⟩,⟨P1.h,⟨SR.h,⟨P9.h,⟨RD.h,⟨⟩,⟨⟩⟩,⟨T6.h,⟨⟩,⟨⟩⟩⟩,⟨RO.h,⟨Q2.h,⟨⟩,⟨⟩⟩,⟨RU.h,⟨⟩,⟨⟩⟩⟩⟩,⟨PL.h,⟨O7.h,⟨SW.h,⟨⟩,⟨⟩⟩,⟨RW.h,⟨⟩,⟨⟩⟩⟩,⟨QJ.h,⟨SF.h,⟨⟩,⟨⟩⟩,⟨OE.h,⟨⟩,⟨⟩⟩⟩⟩⟩⟩,⟨O4.h,⟨OZ.h,⟨O1.h,⟨QB.h,⟨PT.h,⟨⟩,⟨⟩⟩,⟨RZ.h,⟨⟩,⟨⟩⟩⟩,⟨TM.h,⟨TL.h,⟨⟩,⟨⟩⟩,⟨RH.h,⟨⟩,⟨⟩⟩⟩⟩,⟨OT.h,⟨SX.h,⟨PQ.h,⟨⟩,⟨⟩⟩,⟨TO.h,⟨⟩,⟨⟩⟩⟩,⟨OG.h,⟨Q3.h,⟨⟩,⟨⟩⟩,⟨RN.h,⟨⟩,⟨⟩⟩⟩⟩⟩,⟨R6.h,⟨SO.h,⟨S9.h,⟨Q6.h,⟨⟩,⟨⟩⟩,⟨Q8.h,⟨⟩,⟨⟩⟩⟩,⟨PG.h,⟨TW.h,⟨⟩,⟨⟩⟩,⟨TS.h,⟨⟩,⟨⟩⟩⟩⟩,⟨R8.h,⟨TH.h,⟨SU.h,⟨⟩,⟨⟩⟩,⟨TU.h,⟨⟩,⟨⟩⟩⟩,⟨(show rY Tryz.prog 447=some Q4 by kernel_rfl),⟨RC.h,⟨⟩,⟨⟩⟩,⟨⟩⟩⟩⟩⟩⟩⟩ ⟨fk aEj Tryz.func172,⟨fk g89 Tryz.func89,⟨fk g50 Tryz.func50,⟨fk g31 Tryz.func31,⟨fk g18 Tryz.func18,⟨fk g11 Tryz.func11,⟨fk g9 Tryz.func9,⟨fk g8 Tryz.func8,⟨fk g5 Tryz.func5,⟨⟩,⟨⟩⟩,⟨⟩⟩,⟨fk g10 Tryz.func10,⟨⟩,⟨⟩⟩⟩,⟨fk g16 Tryz.func16,⟨fk g15 Tryz.func15,⟨fk g14 Tryz.func14,⟨⟩,⟨⟩⟩,⟨⟩⟩,⟨fk g17 Tryz.func17,⟨⟩,⟨⟩⟩⟩⟩,⟨fk g27 Tryz.func27,⟨fk g22 Tryz.func22,⟨fk g21 Tryz.func21,⟨fk g19 Tryz.func19,⟨⟩,⟨⟩⟩,⟨⟩⟩,⟨fk g23 Tryz.func23,⟨⟩,⟨⟩⟩⟩,⟨fk g29 Tryz.func29,⟨fk g28 Tryz.func28,⟨⟩,⟨⟩⟩,⟨fk g30 Tryz.func30,⟨⟩,⟨⟩⟩⟩⟩⟩,⟨fk g41 Tryz.func41,⟨fk g36 Tryz.func36,⟨fk g34 Tryz.func34,⟨fk g33 Tryz.func33,⟨fk g32 Tryz.func32,⟨⟩,⟨⟩⟩,⟨⟩⟩,⟨fk g35 Tryz.func35,⟨⟩,⟨⟩⟩⟩,⟨fk g39 Tryz.func39,⟨fk g38 Tryz.func38,⟨fk g37 Tryz.func37,⟨⟩,⟨⟩⟩,⟨⟩⟩,⟨fk g40 Tryz.func40,⟨⟩,⟨⟩⟩⟩⟩,⟨fk g46 Tryz.func46,⟨fk g44 Tryz.func44,⟨fk g43 Tryz.func43,⟨fk g42 Tryz.func42,⟨⟩,⟨⟩⟩,⟨⟩⟩,⟨fk g45 Tryz.func45,⟨⟩,⟨⟩⟩⟩,⟨fk g48 Tryz.func48,⟨fk g47 Tryz.func47,⟨⟩,⟨⟩⟩,⟨fk g49 Tryz.func49,⟨⟩,⟨⟩⟩⟩⟩⟩⟩,⟨fk g69 Tryz.func69,⟨fk g60 Tryz.func60,⟨fk g55 Tryz.func55,⟨fk g53 Tryz.func53,⟨fk g52 Tryz.func52,⟨fk g51 Tryz.func51,⟨⟩,⟨⟩⟩,⟨⟩⟩,⟨fk g54 Tryz.func54,⟨⟩,⟨⟩⟩⟩,⟨fk g58 Tryz.func58,⟨fk g57 Tryz.func57,⟨fk g56 Tryz.func56,⟨⟩,⟨⟩⟩,⟨⟩⟩,⟨fk g59 Tryz.func59,⟨⟩,⟨⟩⟩⟩⟩,⟨fk g65 Tryz.func65,⟨fk g63 Tryz.func63,⟨fk g62 Tryz.func62,⟨fk g61 Tryz.func61,⟨⟩,⟨⟩⟩,⟨⟩⟩,⟨fk g64 Tryz.func64,⟨⟩,⟨⟩⟩⟩,⟨fk g67 Tryz.func67,⟨fk g66 Tryz.func66,⟨⟩,⟨⟩⟩,⟨fk g68 Tryz.func68,⟨⟩,⟨⟩⟩⟩⟩⟩,⟨fk g80 Tryz.func80,⟨fk g74 Tryz.func74,⟨fk g72 Tryz.func72,⟨fk g71 Tryz.func71,⟨fk g70 Tryz.func70,⟨⟩,⟨⟩⟩,⟨⟩⟩,⟨fk g73 Tryz.func73,⟨⟩,⟨⟩⟩⟩,⟨fk g78 Tryz.func78,⟨fk g76 Tryz.func76,⟨fk g75 Tryz.func75,⟨⟩,⟨⟩⟩,⟨⟩⟩,⟨fk g79 Tryz.func79,⟨⟩,⟨⟩⟩⟩⟩,⟨fk g85 Tryz.func85,⟨fk g83 Tryz.func83,⟨fk g82 Tryz.func82,⟨fk g81 Tryz.func81,⟨⟩,⟨⟩⟩,⟨⟩⟩,⟨fk g84 Tryz.func84,⟨⟩,⟨⟩⟩⟩,⟨fk g87 Tryz.func87,⟨fk g86 Tryz.func86,⟨⟩,⟨⟩⟩,⟨fk g88 Tryz.func88,⟨⟩,⟨⟩⟩⟩⟩⟩⟩⟩,⟨fk aIf Tryz.func130,⟨fk aKn Tryz.func111,⟨fk aQ0 Tryz.func102,⟨fk g95 Tryz.func95,⟨fk g93 Tryz.func93,⟨fk g92 Tryz.func92,⟨fk g91 Tryz.func91,⟨⟩,⟨⟩⟩,⟨⟩⟩,⟨fk g94 Tryz.func94,⟨⟩,⟨⟩⟩⟩,⟨fk g99 Tryz.func99,⟨fk g98 Tryz.func98,⟨fk g97 Tryz.func97,⟨⟩,⟨⟩⟩,⟨⟩⟩,⟨fk aMB Tryz.func101,⟨⟩,⟨⟩⟩⟩⟩,⟨fk aIy Tryz.func107,⟨fk aHr Tryz.func105,⟨fk aHz Tryz.func104,⟨fk VT Tryz.func103,⟨⟩,⟨⟩⟩,⟨⟩⟩,⟨fk aHV Tryz.func106,⟨⟩,⟨⟩⟩⟩,⟨fk aHd Tryz.func109,⟨fk aJj Tryz.func108,⟨⟩,⟨⟩⟩,⟨fk aFV Tryz.func110,⟨⟩,⟨⟩⟩⟩⟩⟩,⟨fk aIH Tryz.func121,⟨fk X3 Tryz.func116,⟨fk aHa Tryz.func114,⟨fk aEL Tryz.func113,⟨fk NI Tryz.func112,⟨⟩,⟨⟩⟩,⟨⟩⟩,⟨fk aJd Tryz.func115,⟨⟩,⟨⟩⟩⟩,⟨fk aI8 Tryz.func119,⟨fk aIj Tryz.func118,⟨fk aI5 Tryz.func117,⟨⟩,⟨⟩⟩,⟨⟩⟩,⟨fk aD2 Tryz.func120,⟨⟩,⟨⟩⟩⟩⟩,⟨fk aE4 Tryz.func126,⟨fk aGX Tryz.func124,⟨fk aFT Tryz.func123,⟨fk aFk Tryz.func122,⟨⟩,⟨⟩⟩,⟨⟩⟩,⟨fk aKf Tryz.func125,⟨⟩,⟨⟩⟩⟩,⟨fk aBi Tryz.func128,⟨fk aJp Tryz.func127,⟨⟩,⟨⟩⟩,⟨fk X8 Tryz.func129,⟨⟩,⟨⟩⟩⟩⟩⟩⟩,⟨fk aGV Tryz.func149,⟨fk aEf Tryz.func140,⟨fk aHT Tryz.func135,⟨fk Z5 Tryz.func133,⟨fk aHy Tryz.func132,⟨fk aHu Tryz.func131,⟨⟩,⟨⟩⟩,⟨⟩⟩,⟨fk aIz Tryz.func134,⟨⟩,⟨⟩⟩⟩,⟨fk WS Tryz.func138,⟨fk aFE Tryz.func137,⟨fk aJw Tryz.func136,⟨⟩,⟨⟩⟩,⟨⟩⟩,⟨fk aDR Tryz.func139,⟨⟩,⟨⟩⟩⟩⟩,⟨fk aPS Tryz.func145,⟨fk aN6 Tryz.func143,⟨fk H6 Tryz.func142,⟨fk aGg Tryz.func141,⟨⟩,⟨⟩⟩,⟨⟩⟩,⟨fk aPX Tryz.func144,⟨⟩,⟨⟩⟩⟩,⟨fk aEw Tryz.func147,⟨fk aPk Tryz.func146,⟨⟩,⟨⟩⟩,⟨fk aAH Tryz.func148,⟨⟩,⟨⟩⟩⟩⟩⟩,⟨fk aGw Tryz.func163,⟨fk aFG Tryz.func157,⟨fk aFl Tryz.func153,⟨fk aDM Tryz.func151,⟨fk aKh Tryz.func150,⟨⟩,⟨⟩⟩,⟨⟩⟩,⟨fk aEu Tryz.func154,⟨⟩,⟨⟩⟩⟩,⟨fk aOC Tryz.func161,⟨fk aIu Tryz.func159,⟨fk LI Tryz.func158,⟨⟩,⟨⟩⟩,⟨⟩⟩,⟨fk aMF Tryz.func162,⟨⟩,⟨⟩⟩⟩⟩,⟨fk aIo Tryz.func168,⟨fk aCZ Tryz.func166,⟨fk aIn Tryz.func165,⟨fk aR5 Tryz.func164,⟨⟩,⟨⟩⟩,⟨⟩⟩,⟨fk aJM Tryz.func167,⟨⟩,⟨⟩⟩⟩,⟨fk aGv Tryz.func170,⟨fk aEx Tryz.func169,⟨⟩,⟨⟩⟩,⟨fk aFn Tryz.func171,⟨⟩,⟨⟩⟩⟩⟩⟩⟩⟩⟩,⟨fk aJQ Tryz.func254,⟨fk aBK Tryz.func213,⟨fk aGo Tryz.func191,⟨fk aGd Tryz.func182,⟨fk aJA Tryz.func177,⟨fk aKl Tryz.func175,⟨fk aEF Tryz.func174,⟨fk aHM Tryz.func173,⟨⟩,⟨⟩⟩,⟨⟩⟩,⟨fk aH7 Tryz.func176,⟨⟩,⟨⟩⟩⟩,⟨fk aAQ Tryz.func180,⟨fk aH9 Tryz.func179,⟨fk aKd Tryz.func178,⟨⟩,⟨⟩⟩,⟨⟩⟩,⟨fk aEA Tryz.func181,⟨⟩,⟨⟩⟩⟩⟩,⟨fk aHX Tryz.func187,⟨fk aE0 Tryz.func185,⟨fk aBf Tryz.func184,⟨fk UD Tryz.func183,⟨⟩,⟨⟩⟩,⟨⟩⟩,⟨fk aDp Tryz.func186,⟨⟩,⟨⟩⟩⟩,⟨fk V7 Tryz.func189,⟨fk aFh Tryz.func188,⟨⟩,⟨⟩⟩,⟨fk aJK Tryz.func190,⟨⟩,⟨⟩⟩⟩⟩⟩,⟨fk aDj Tryz.func201,⟨fk aG0 Tryz.func196,⟨fk aE5 Tryz.func194,⟨fk aFB Tryz.func193,⟨fk aGT Tryz.func192,⟨⟩,⟨⟩⟩,⟨⟩⟩,⟨fk aEv Tryz.func195,⟨⟩,⟨⟩⟩⟩,⟨fk aEt Tryz.func199,⟨fk ZY Tryz.func198,⟨fk YR Tryz.func197,⟨⟩,⟨⟩⟩,⟨⟩⟩,⟨fk UI Tryz.func200,⟨⟩,⟨⟩⟩⟩⟩,⟨fk YD Tryz.func206,⟨fk aAX Tryz.func204,⟨fk aGn Tryz.func203,⟨fk aJk Tryz.func202,⟨⟩,⟨⟩⟩,⟨⟩⟩,⟨fk aGm Tryz.func205,⟨⟩,⟨⟩⟩⟩,⟨fk aGB Tryz.func210,⟨fk aAE Tryz.func209,⟨⟩,⟨⟩⟩,⟨fk aID Tryz.func212,⟨⟩,⟨⟩⟩⟩⟩⟩⟩,⟨fk aHA Tryz.func235,⟨fk aJT Tryz.func226,⟨fk aJg Tryz.func220,⟨fk aHv Tryz.func218,⟨fk aJe Tryz.func217,⟨fk aBT Tryz.func214,⟨⟩,⟨⟩⟩,⟨⟩⟩,⟨fk aFg Tryz.func219,⟨⟩,⟨⟩⟩⟩,⟨fk aEr Tryz.func223,⟨fk aFf Tryz.func222,⟨fk U3 Tryz.func221,⟨⟩,⟨⟩⟩,⟨⟩⟩,⟨fk aJz Tryz.func224,⟨⟩,⟨⟩⟩⟩⟩,⟨fk aFW Tryz.func231,⟨fk aE3 Tryz.func229,⟨fk aEU Tryz.func228,⟨fk aNy Tryz.func227,⟨⟩,⟨⟩⟩,⟨⟩⟩,⟨fk aGC Tryz.func230,⟨⟩,⟨⟩⟩⟩,⟨fk aJv Tryz.func233,⟨fk aId Tryz.func232,⟨⟩,⟨⟩⟩,⟨fk aFs Tryz.func234,⟨⟩,⟨⟩⟩⟩⟩⟩,⟨fk aIN Tryz.func245,⟨fk aFF Tryz.func240,⟨fk aFX Tryz.func238,⟨fk aI9 Tryz.func237,⟨fk aIF Tryz.func236,⟨⟩,⟨⟩⟩,⟨⟩⟩,⟨fk aD5 Tryz.func239,⟨⟩,⟨⟩⟩⟩,⟨fk aHE Tryz.func243,⟨fk aIU Tryz.func242,⟨fk aIJ Tryz.func241,⟨⟩,⟨⟩⟩,⟨⟩⟩,⟨fk aKi Tryz.func244,⟨⟩,⟨⟩⟩⟩⟩,⟨fk aLQ Tryz.func250,⟨fk aFv Tryz.func248,⟨fk aIi Tryz.func247,⟨fk aKq Tryz.func246,⟨⟩,⟨⟩⟩,⟨⟩⟩,⟨fk aGf Tryz.func249,⟨⟩,⟨⟩⟩⟩,⟨fk aJb Tryz.func252,⟨fk aEO Tryz.func251,⟨⟩,⟨⟩⟩,⟨fk aBe Tryz.func253,⟨⟩,⟨⟩⟩⟩⟩⟩⟩⟩,⟨fk aGJ Tryz.func306,⟨fk aJq Tryz.func287,⟨fk aJr Tryz.func264,⟨fk aJY Tryz.func259,⟨fk aHs Tryz.func257,⟨fk aGb Tryz.func256,⟨fk aJP Tryz.func255,⟨⟩,⟨⟩⟩,⟨⟩⟩,⟨fk aFR Tryz.func258,⟨⟩,⟨⟩⟩⟩,⟨fk aIR Tryz.func262,⟨fk aEW Tryz.func261,⟨fk aGl Tryz.func260,⟨⟩,⟨⟩⟩,⟨⟩⟩,⟨fk aJx Tryz.func263,⟨⟩,⟨⟩⟩⟩⟩,⟨fk aHf Tryz.func277,⟨fk aI1 Tryz.func275,⟨fk aFj Tryz.func271,⟨fk aRR Tryz.func265,⟨⟩,⟨⟩⟩,⟨⟩⟩,⟨fk aJI Tryz.func276,⟨⟩,⟨⟩⟩⟩,⟨fk aBD Tryz.func285,⟨fk aDI Tryz.func284,⟨⟩,⟨⟩⟩,⟨fk aQC Tryz.func286,⟨⟩,⟨⟩⟩⟩⟩⟩,⟨fk aFD Tryz.func297,⟨fk aFa Tryz.func292,⟨fk aGR Tryz.func290,⟨fk aFz Tryz.func289,⟨fk aFc Tryz.func288,⟨⟩,⟨⟩⟩,⟨⟩⟩,⟨fk aH6 Tryz.func291,⟨⟩,⟨⟩⟩⟩,⟨fk aGr Tryz.func295,⟨fk aI2 Tryz.func294,⟨fk aJ1 Tryz.func293,⟨⟩,⟨⟩⟩,⟨⟩⟩,⟨fk aIK Tryz.func296,⟨⟩,⟨⟩⟩⟩⟩,⟨fk aEC Tryz.func302,⟨fk aFw Tryz.func300,⟨fk aIk Tryz.func299,⟨fk aHk Tryz.func298,⟨⟩,⟨⟩⟩,⟨⟩⟩,⟨fk aFr Tryz.func301,⟨⟩,⟨⟩⟩⟩,⟨fk aGH Tryz.func304,⟨fk ZA Tryz.func303,⟨⟩,⟨⟩⟩,⟨fk aB5 Tryz.func305,⟨⟩,⟨⟩⟩⟩⟩⟩⟩,⟨fk aNG Tryz.func338,⟨fk Z8 Tryz.func316,⟨fk aHt Tryz.func311,⟨fk X5 Tryz.func309,⟨fk aDi Tryz.func308,⟨fk aIr Tryz.func307,⟨⟩,⟨⟩⟩,⟨⟩⟩,⟨fk WK Tryz.func310,⟨⟩,⟨⟩⟩⟩,⟨fk aO1 Tryz.func314,⟨fk aRC Tryz.func313,⟨fk ZW Tryz.func312,⟨⟩,⟨⟩⟩,⟨⟩⟩,⟨fk aDK Tryz.func315,⟨⟩,⟨⟩⟩⟩⟩,⟨fk aEB Tryz.func334,⟨fk aF0 Tryz.func332,⟨fk ZC Tryz.func331,⟨fk aCG Tryz.func330,⟨⟩,⟨⟩⟩,⟨⟩⟩,⟨fk aIP Tryz.func333,⟨⟩,⟨⟩⟩⟩,⟨fk aEI Tryz.func336,⟨fk aHZ Tryz.func335,⟨⟩,⟨⟩⟩,⟨fk WM Tryz.func337,⟨⟩,⟨⟩⟩⟩⟩⟩,⟨fk aIl Tryz.func349,⟨fk N0 Tryz.func343,⟨fk aIe Tryz.func341,⟨fk aHb Tryz.func340,⟨fk V3 Tryz.func339,⟨⟩,⟨⟩⟩,⟨⟩⟩,⟨fk aIv Tryz.func342,⟨⟩,⟨⟩⟩⟩,⟨fk aOn Tryz.func346,⟨fk aO3 Tryz.func344,⟨⟩,⟨⟩⟩,⟨fk aMb Tryz.func348,⟨⟩,⟨⟩⟩⟩⟩,⟨fk aCT Tryz.func354,⟨fk aJE Tryz.func352,⟨fk aFM Tryz.func351,⟨fk aHU Tryz.func350,⟨⟩,⟨⟩⟩,⟨⟩⟩,⟨fk aJF Tryz.func353,⟨⟩,⟨⟩⟩⟩,⟨fk aB6 Tryz.func356,⟨fk aDo Tryz.func355,⟨⟩,⟨⟩⟩,⟨fk aJU Tryz.func357,⟨⟩,⟨⟩⟩⟩⟩⟩⟩⟩⟩⟩ (XW (by kernel_rfl) rfl rfl) (aAP rfl rfl)
theorem ZJ:Cz.B 73=some g73.fn:=by rfl
theorem aAK:Cz.B 75=some g75.fn:=by rfl
theorem aKF:Cz.T 56=some KH.t:=by rfl
theorem aWS:Cz.T 60=some WT.t:=by rfl
theorem aKC:Cz.T 97=some MO.t:=by rfl
theorem aOs:Cz.T 189=some B3.t:=by rfl
def sY(f:FuncId):Bool:=Nat.beq f 73||Nat.beq f 75
def zK(f:FuncId)(zs:List A):Option A:=bif sY f then(match zs with|[.sl 0 []]=>some (.sl 0 [])|_=>none)else pS f zs
theorem KZ(f:FuncId)(hf:sY f=true)(c:Nat):EvQ Cz f [.v (.slice none 0 c)] (.sl 0 []):=by simp only[sY,Bool.or_eq_true]at hf;rcases hf with h|h;{obtain rfl:=Nat.eq_of_beq_eq_true h;refine evF ZJ ?_;simp(disch:=omega)only[go_sem,simprocAttr,aKC,MO,n7,pU,g73]};{obtain rfl:=Nat.eq_of_beq_eq_true h;refine evF aAK ?_;simp(disch:=omega)only[go_sem,simprocAttr,aKF,KH,n7,pU,g75]}
theorem J5(f:FuncId)(hf:sY f=true)(a:Addr)(c:Nat):EvQ Cz f [.v (.slice (some a) 0 c)] (.sl 0 []):=by simp only[sY,Bool.or_eq_true]at hf;rcases hf with h|h;{obtain rfl:=Nat.eq_of_beq_eq_true h;refine evF ZJ ?_;simp(disch:=omega)only[go_sem,simprocAttr,aKC,MO,aOs,B3,n7,pU,g73]};{obtain rfl:=Nat.eq_of_beq_eq_true h;refine evF aAK ?_;simp(disch:=omega)only[go_sem,simprocAttr,aKF,KH,aWS,WT,n7,pU,g75]}
theorem aBU:QOk Cz.T Tryz.prog zK:=by intro f zs r h;unfold zK at h;cases hb:sY f with|false=>rw[hb,cond_false]at h;exact FA.ext f zs r h|true=>rw[hb,cond_true]at h;split at h;{simp only[Option.some.injEq]at h;subst h;(have hent:mG Tryz.prog f:=by simp only[sY,Bool.or_eq_true]at hb;rcases hb with h|h;{obtain rfl:=Nat.eq_of_beq_eq_true h;exact FA.enters ZJ};{obtain rfl:=Nat.eq_of_beq_eq_true h;exact FA.enters aAK});refine .inr ⟨hent,fun own w ys ho hgl hr=>?_⟩;(obtain⟨y,ys',rfl,hy,hn⟩:∃y ys',ys=y::ys'/\R [] own w (.sl 0 []) y/\RL [] own w [] ys':=by rw[RL]at hr;obtain⟨y,ys',e,h1,h2⟩:=hr;exact⟨y,ys',e,h1,h2⟩);(have key:∀a c,y=.slice a 0 c->EvQ Cz f [.v (.slice a 0 c)] (.sl 0 []):=fun a c _=>by cases a with|none=>exact KZ f hb c|some a=>exact J5 f hb a c);(have fin:∀a c,y=.slice a 0 c->Go.Calls Tryz.prog f (y::ys').toArray w fun e w'=>∃v,e=.returned v/\Grow w w'/\R [] own w' (.sl 0 []) v:=fun a c e=>by subst e;obtain⟨N,hN⟩:=key a c rfl;rcases(jM FA N).1 f _ _ hN with h|⟨-,h⟩;{obtain⟨v,h1,-⟩:=h [] own w _ (RL.cons (by rw[R]) hn);rw[hent]at h1;simp at h1};{exact h own w _ ho hgl (RL.cons (by rw[R]) hn)});rw[R]at hy;rcases hy with⟨-,-,a,c,rfl⟩|⟨g,off,cap,xs,rfl,h0,-⟩;{exact fin _ _ rfl};{exact fin _ _ rfl}};{cases h}
def Cy:Ctx:=⟨Cz.T,Cz.B,zK,Cz.XO⟩
theorem sG:kN Tryz.prog Cy:=⟨FA.mixed,FA.types,FA.loops,FA.fns,aBU,FA.extO⟩
noncomputable def aCL(f:FuncId):Option (List A->aG->Option (A×aG)):=bif Nat.beq f 225 then some (rK Cy)else GT f
theorem aBV:∀f g zs H x H',aCL f=some g->g zs H=some (x,H')->qQ Cy.T Tryz.prog f zs H x H':=by intro f g zs H x H' hg h;unfold aCL at hg;cases h1:Nat.beq f 225 with|true=>obtain rfl:=Nat.eq_of_beq_eq_true h1;rw[h1,cond_true]at hg;obtain rfl:=Option.some.inj hg;exact V5 sG h|false=>rw[h1,cond_false]at hg;exact sG.extO f g zs H x H' hg h
noncomputable def Cx:Ctx:=⟨Cy.T,Cy.B,Cy.X,aCL⟩
theorem Z1:kN Tryz.prog Cx:=⟨sG.mixed,sG.types,sG.loops,sG.fns,sG.ext,aBV⟩
theorem aLO:Cy.B 180=some aAQ.fn:=by rfl
theorem aYl:g7 Cy 180=true:=by rfl
theorem aL3:Cy.B 182=some aGd.fn:=by rfl
theorem aXW:g7 Cy 182=true:=by rfl
theorem aX5:Cx.T 1=some th1.t:=by rfl
theorem aX8:Cx.T 3=some th3.t:=by rfl
theorem aYh:Cx.T 4=some th4.t:=by rfl
theorem aYT:Cx.T 5=some th5.t:=by rfl
theorem aZd:Cx.T 9=some th9.t:=by rfl
theorem aU9:Cx.T 20=some aGu.t:=by rfl
theorem aWC:Cx.T 22=some aH8.t:=by rfl
theorem aT8:Cx.T 23=some aJX.t:=by rfl
theorem aWa:Cx.T 24=some aIE.t:=by rfl
theorem aV9:Cx.T 25=some aKs.t:=by rfl
theorem aVU:Cx.T 27=some aGF.t:=by rfl
theorem aVM:Cx.T 29=some aJB.t:=by rfl
theorem aWn:Cx.T 31=some aGY.t:=by rfl
theorem aV7:Cx.T 33=some aGG.t:=by rfl
theorem aVs:Cx.T 34=some aJ6.t:=by rfl
theorem aTZ:Cx.T 36=some aJs.t:=by rfl
theorem aVS:Cx.T 37=some aFe:=by rfl
theorem aWQ:Cx.T 38=some aG2:=by rfl
theorem aUX:Cx.T 39=some aJS.t:=by rfl
theorem aWv:Cx.T 40=some aEV:=by rfl
theorem aSr:Cx.T 42=some aG8:=by rfl
theorem aTq:Cx.T 44=some aIQ:=by rfl
theorem aSU:Cx.T 45=some aEd.t:=by rfl
theorem aWA:Cx.T 46=some aKm.t:=by rfl
theorem aUL:Cx.T 47=some aJc.t:=by rfl
theorem aWt:Cx.T 48=some aHe.t:=by rfl
theorem aSY:Cx.T 50=some aEy.t:=by rfl
theorem aT1:Cx.T 51=some aIC.t:=by rfl
theorem aUC:Cx.T 52=some aHg.t:=by rfl
theorem aVk:Cx.T 54=some aF5.t:=by rfl
theorem aU3:Cx.T 55=some aIt:=by rfl
theorem aUB:Cx.T 56=some KH.t:=by rfl
theorem aST:Cx.T 58=some aFN.t:=by rfl
theorem aWF:Cx.T 60=some WT.t:=by rfl
theorem aTQ:Cx.T 62=some aKo.t:=by rfl
theorem aUl:Cx.T 63=some aJZ.t:=by rfl
theorem aWD:Cx.T 65=some aJt.t:=by rfl
theorem aU5:Cx.T 68=some aEc.t:=by rfl
theorem aSv:Cx.T 69=some aIA.t:=by rfl
theorem aWy:Cx.T 75=some aHC.t:=by rfl
theorem aVa:Cx.T 77=some aFi.t:=by rfl
theorem aS8:Cx.T 91=some aEi.t:=by rfl
theorem aVQ:Cx.T 93=some aHq.t:=by rfl
theorem aSK:Cx.T 95=some aHH.t:=by rfl
theorem aUQ:Cx.T 96=some aIG.t:=by rfl
theorem aTI:Cx.T 97=some MO.t:=by rfl
theorem aUZ:Cx.T 99=some aIM.t:=by rfl
theorem aQ2:Cx.T 101=some RY.t:=by rfl
theorem aMV:Cx.T 107=some SQ.t:=by rfl
theorem aNr:Cx.T 112=some RK.t:=by rfl
theorem aPH:Cx.T 114=some PO.t:=by rfl
theorem aR2:Cx.T 115=some OW:=by rfl
theorem aSc:Cx.T 116=some SA:=by rfl
theorem aMe:Cx.T 118=some PA.t:=by rfl
theorem aNt:Cx.T 119=some T4.t:=by rfl
theorem aOX:Cx.T 121=some RQ.t:=by rfl
theorem aPD:Cx.T 123=some R7:=by rfl
theorem aPc:Cx.T 125=some P5.t:=by rfl
theorem aLV:Cx.T 127=some PD.t:=by rfl
theorem aLD:Cx.T 130=some TX.t:=by rfl
theorem aP2:Cx.T 131=some RA.t:=by rfl
theorem aR8:Cx.T 134=some P7:=by rfl
theorem aPr:Cx.T 144=some QO.t:=by rfl
theorem aQU:Cx.T 146=some Q7.t:=by rfl
theorem aPa:Cx.T 148=some PX.t:=by rfl
theorem aQy:Cx.T 154=some QX.t:=by rfl
theorem aRN:Cx.T 163=some S8.t:=by rfl
theorem aLJ:Cx.T 167=some T7.t:=by rfl
theorem aRH:Cx.T 169=some SL.t:=by rfl
theorem aLU:Cx.T 171=some O3.t:=by rfl
theorem aQs:Cx.T 172=some OP.t:=by rfl
theorem aRb:Cx.T 177=some TZ.t:=by rfl
theorem aQF:Cx.T 179=some UB.t:=by rfl
theorem aLH:Cx.T 181=some OO.t:=by rfl
theorem aMz:Cx.T 185=some OM.t:=by rfl
theorem aOx:Cx.T 189=some B3.t:=by rfl
theorem aNJ:Cx.T 199=some PR.t:=by rfl
theorem aOK:Cx.T 211=some SD.t:=by rfl
theorem aNS:Cx.T 213=some RB.t:=by rfl
theorem aRV:Cx.T 215=some OL.t:=by rfl
theorem aMf:Cx.T 217=some RD.t:=by rfl
theorem aQS:Cx.T 240=some P9.t:=by rfl
theorem aNe:Cx.T 253=some T6.t:=by rfl
theorem aNB:Cx.T 254=some SR.t:=by rfl
theorem aRf:Cx.T 261=some Q2.t:=by rfl
theorem aPw:Cx.T 265=some RO.t:=by rfl
theorem aMR:Cx.T 282=some RU.t:=by rfl
theorem aPi:Cx.T 283=some P1.t:=by rfl
theorem aRg:Cx.T 285=some SW.t:=by rfl
theorem aRK:Cx.T 286=some O7.t:=by rfl
theorem aMm:Cx.T 296=some RW.t:=by rfl
theorem aOM:Cx.T 299=some PL.t:=by rfl
theorem aOg:Cx.T 309=some SF.t:=by rfl
theorem aNf:Cx.T 316=some QJ.t:=by rfl
theorem aM8:Cx.T 318=some OE.t:=by rfl
theorem aOI:Cx.T 320=some SE.t:=by rfl
theorem aN8:Cx.T 323=some PT.t:=by rfl
theorem aMh:Cx.T 325=some QB.t:=by rfl
theorem aOF:Cx.T 328=some RZ.t:=by rfl
theorem aQu:Cx.T 329=some O1.t:=by rfl
theorem aMG:Cx.T 332=some TL.t:=by rfl
theorem aLY:Cx.T 335=some TM.t:=by rfl
theorem aR3:Cx.T 340=some RH.t:=by rfl
theorem aP6:Cx.T 342=some OZ.t:=by rfl
theorem aMc:Cx.T 344=some PQ.t:=by rfl
theorem aP3:Cx.T 351=some SX.t:=by rfl
theorem aOi:Cx.T 352=some TO.t:=by rfl
theorem aRt:Cx.T 355=some OT.t:=by rfl
theorem aQa:Cx.T 358=some Q3.t:=by rfl
theorem aL7:Cx.T 359=some OG.t:=by rfl
theorem aNh:Cx.T 360=some RN.t:=by rfl
theorem aM5:Cx.T 362=some O4.t:=by rfl
theorem aQK:Cx.T 364=some Q6.t:=by rfl
theorem aMH:Cx.T 369=some S9.t:=by rfl
theorem aOl:Cx.T 371=some Q8.t:=by rfl
theorem aSh:Cx.T 372=some SO.t:=by rfl
theorem aPQ:Cx.T 374=some TW.t:=by rfl
theorem aQ8:Cx.T 376=some PG.t:=by rfl
theorem aP0:Cx.T 393=some TS.t:=by rfl
theorem aMJ:Cx.T 400=some R6.t:=by rfl
theorem aN7:Cx.T 405=some SU.t:=by rfl
theorem aMn:Cx.T 428=some TH.t:=by rfl
theorem aOH:Cx.T 430=some TU.t:=by rfl
theorem aOJ:Cx.T 433=some R8.t:=by rfl
theorem aOQ:Cx.T 444=some RC.t:=by rfl
theorem aPp:Cx.T 447=some Q4:=by rfl
abbrev XB(f:FuncId)(m:MFn):Prop:=Cx.B f=some m
theorem aXb:XB 5 g5.fn:=by rfl
theorem aSB:XB 8 g8.fn:=by rfl
theorem aYS:XB 9 g9.fn:=by rfl
theorem aTN:XB 10 g10.fn:=by rfl
theorem aSH:XB 11 g11.fn:=by rfl
theorem aSx:XB 15 g15.fn:=by rfl
theorem aK5:XB 16 g16.fn:=by rfl
theorem aKO:XB 17 g17.fn:=by rfl
theorem aUE:XB 18 g18.fn:=by rfl
theorem aVv:XB 19 g19.fn:=by rfl
theorem aKZ:XB 21 g21.fn:=by rfl
theorem aWW:XB 22 g22.fn:=by rfl
theorem ZX:XB 23 g23.fn:=by rfl
theorem aTO:XB 27 g27.fn:=by rfl
theorem aW8:XB 28 g28.fn:=by rfl
theorem aSo:XB 29 g29.fn:=by rfl
theorem aTl:XB 30 g30.fn:=by rfl
theorem CM:XB 31 g31.fn:=by rfl
theorem aSQ:XB 32 g32.fn:=by rfl
theorem aVu:XB 33 g33.fn:=by rfl
theorem aLp:XB 34 g34.fn:=by rfl
theorem aS4:XB 35 g35.fn:=by rfl
theorem aVr:XB 36 g36.fn:=by rfl
theorem aCD:XB 40 g40.fn:=by rfl
theorem aUs:XB 41 g41.fn:=by rfl
theorem aXe:XB 42 g42.fn:=by rfl
theorem aTU:XB 43 g43.fn:=by rfl
theorem aUo:XB 44 g44.fn:=by rfl
theorem aUj:XB 45 g45.fn:=by rfl
theorem aSL:XB 46 g46.fn:=by rfl
theorem aVV:XB 47 g47.fn:=by rfl
theorem aVx:XB 48 g48.fn:=by rfl
theorem aTF:XB 49 g49.fn:=by rfl
theorem qO:XB 50 g50.fn:=by rfl
theorem aLh:XB 51 g51.fn:=by rfl
theorem aKW:XB 52 g52.fn:=by rfl
theorem QS:XB 53 g53.fn:=by rfl
theorem aUH:XB 54 g54.fn:=by rfl
theorem QH:XB 55 g55.fn:=by rfl
theorem aWd:XB 57 g57.fn:=by rfl
theorem aWM:XB 58 g58.fn:=by rfl
theorem aKx:XB 59 g59.fn:=by rfl
theorem aWG:XB 60 g60.fn:=by rfl
theorem aVb:XB 61 g61.fn:=by rfl
theorem IO:XB 62 g62.fn:=by rfl
theorem aT5:XB 63 g63.fn:=by rfl
theorem aVJ:XB 64 g64.fn:=by rfl
theorem aK8:XB 65 g65.fn:=by rfl
theorem aUq:XB 66 g66.fn:=by rfl
theorem aWE:XB 67 g67.fn:=by rfl
theorem aWm:XB 68 g68.fn:=by rfl
theorem aTG:XB 69 g69.fn:=by rfl
theorem aWz:XB 70 g70.fn:=by rfl
theorem T8:XB 71 g71.fn:=by rfl
theorem aUa:XB 72 g72.fn:=by rfl
theorem aXf:XB 73 g73.fn:=by rfl
theorem aW3:XB 74 g74.fn:=by rfl
theorem aT3:XB 75 g75.fn:=by rfl
theorem aUM:XB 80 g80.fn:=by rfl
theorem aT6:XB 81 g81.fn:=by rfl
theorem aVH:XB 82 g82.fn:=by rfl
theorem aU7:XB 83 g83.fn:=by rfl
theorem aT4:XB 84 g84.fn:=by rfl
theorem aSZ:XB 85 g85.fn:=by rfl
theorem aVW:XB 86 g86.fn:=by rfl
theorem aSl:XB 87 g87.fn:=by rfl
theorem aXh:XB 88 g88.fn:=by rfl
theorem aUV:XB 89 g89.fn:=by rfl
theorem CK:XB 91 g91.fn:=by rfl
theorem aLr:XB 93 g93.fn:=by rfl
theorem aLn:XB 94 g94.fn:=by rfl
theorem aSn:XB 95 g95.fn:=by rfl
theorem aVi:XB 97 g97.fn:=by rfl
theorem aVq:XB 98 g98.fn:=by rfl
theorem aKU:XB 99 g99.fn:=by rfl
theorem aBB:XB 105 aHr.fn:=by rfl
theorem aSb:XB 106 aHV.fn:=by rfl
theorem aQt:XB 107 aIy.fn:=by rfl
theorem ZO:XB 108 aJj.fn:=by rfl
theorem aLB:XB 109 aHd.fn:=by rfl
theorem aMu:XB 110 aFV.fn:=by rfl
theorem aQE:XB 111 aKn.fn:=by rfl
theorem aNs:XB 112 NI.fn:=by rfl
theorem aDw:XB 113 aEL.fn:=by rfl
theorem aNc:XB 114 aHa.fn:=by rfl
theorem aQf:XB 115 aJd.fn:=by rfl
theorem aNa:XB 116 X3.fn:=by rfl
theorem aQz:XB 117 aI5.fn:=by rfl
theorem aL6:XB 118 aIj.fn:=by rfl
theorem aLS:XB 119 aI8.fn:=by rfl
theorem aNX:XB 120 aD2.fn:=by rfl
theorem aMg:XB 121 aIH.fn:=by rfl
theorem aPZ:XB 122 aFk.fn:=by rfl
theorem aM6:XB 123 aFT.fn:=by rfl
theorem aMw:XB 124 aGX.fn:=by rfl
theorem aQd:XB 125 aKf.fn:=by rfl
theorem aQq:XB 126 aE4.fn:=by rfl
theorem aLA:XB 127 aJp.fn:=by rfl
theorem aBj:XB 128 aBi.fn:=by rfl
theorem ZK:XB 129 X8.fn:=by rfl
theorem aP9:XB 130 aIf.fn:=by rfl
theorem aRB:XB 131 aHu.fn:=by rfl
theorem aOr:XB 132 aHy.fn:=by rfl
theorem aM2:XB 133 Z5.fn:=by rfl
theorem aN5:XB 134 aIz.fn:=by rfl
theorem aQ9:XB 135 aHT.fn:=by rfl
theorem aM7:XB 136 aJw.fn:=by rfl
theorem aPM:XB 137 aFE.fn:=by rfl
theorem aLK:XB 138 WS.fn:=by rfl
theorem aNl:XB 139 aDR.fn:=by rfl
theorem aRW:XB 140 aEf.fn:=by rfl
theorem aQV:XB 141 aGg.fn:=by rfl
theorem aPs:XB 142 H6.fn:=by rfl
theorem aNA:XB 147 aEw.fn:=by rfl
theorem aL0:XB 148 aAH.fn:=by rfl
theorem aN4:XB 149 aGV.fn:=by rfl
theorem aRT:XB 150 aKh.fn:=by rfl
theorem aQN:XB 151 aDM.fn:=by rfl
theorem aOp:XB 153 aFl.fn:=by rfl
theorem XT:XB 154 aEu.fn:=by rfl
theorem aRG:XB 157 aFG.fn:=by rfl
theorem aC2:XB 158 LI.fn:=by rfl
theorem aON:XB 159 aIu.fn:=by rfl
theorem aMy:XB 165 aIn.fn:=by rfl
theorem aQp:XB 166 aCZ.fn:=by rfl
theorem fF:XB 167 aJM.fn:=by rfl
theorem aDF:XB 168 aIo.fn:=by rfl
theorem Z3:XB 169 aEx.fn:=by rfl
theorem aMC:XB 170 aGv.fn:=by rfl
theorem aR6:XB 171 aFn.fn:=by rfl
theorem M6:XB 172 aEj.fn:=by rfl
theorem kG:XB 173 aHM.fn:=by rfl
theorem aRX:XB 174 aEF.fn:=by rfl
theorem aPn:XB 175 aKl.fn:=by rfl
theorem aOo:XB 176 aH7.fn:=by rfl
theorem aPf:XB 177 aJA.fn:=by rfl
theorem aL8:XB 178 aKd.fn:=by rfl
theorem aQJ:XB 179 aH9.fn:=by rfl
theorem aNw:XB 180 aAQ.fn:=by rfl
theorem aQr:XB 181 aEA.fn:=by rfl
theorem aOU:XB 183 UD.fn:=by rfl
theorem aRr:XB 184 aBf.fn:=by rfl
theorem vW:XB 185 aE0.fn:=by rfl
theorem aQ7:XB 186 aDp.fn:=by rfl
theorem qH:XB 187 aHX.fn:=by rfl
theorem aN1:XB 188 aFh.fn:=by rfl
theorem AV:XB 189 V7.fn:=by rfl
theorem zC:XB 190 aJK.fn:=by rfl
theorem aQm:XB 191 aGo.fn:=by rfl
theorem aOG:XB 192 aGT.fn:=by rfl
theorem aRy:XB 193 aFB.fn:=by rfl
theorem aR9:XB 194 aE5.fn:=by rfl
theorem aR1:XB 195 aEv.fn:=by rfl
theorem aSf:XB 196 aG0.fn:=by rfl
theorem aLC:XB 197 YR.fn:=by rfl
theorem aMY:XB 198 ZY.fn:=by rfl
theorem aRD:XB 199 aEt.fn:=by rfl
theorem aRx:XB 200 UI.fn:=by rfl
theorem aP8:XB 201 aDj.fn:=by rfl
theorem aMd:XB 202 aJk.fn:=by rfl
theorem aMZ:XB 203 aGn.fn:=by rfl
theorem OB:XB 204 aAX.fn:=by rfl
theorem aOB:XB 206 YD.fn:=by rfl
theorem aQ5:XB 209 aAE.fn:=by rfl
theorem KI:XB 210 aGB.fn:=by rfl
theorem LW:XB 212 aID.fn:=by rfl
theorem aSd:XB 213 aBK.fn:=by rfl
theorem aQh:XB 214 aBT.fn:=by rfl
theorem wD:XB 218 aHv.fn:=by rfl
theorem aOm:XB 219 aFg.fn:=by rfl
theorem aQD:XB 220 aJg.fn:=by rfl
theorem aCP:XB 221 U3.fn:=by rfl
theorem aNk:XB 222 aFf.fn:=by rfl
theorem aLE:XB 223 aEr.fn:=by rfl
theorem KX:XB 224 aJz.fn:=by rfl
theorem aSg:XB 226 aJT.fn:=by rfl
theorem aOc:XB 228 aEU.fn:=by rfl
theorem aMk:XB 229 aE3.fn:=by rfl
theorem vV:XB 230 aGC.fn:=by rfl
theorem zY:XB 231 aFW.fn:=by rfl
theorem aNp:XB 232 aId.fn:=by rfl
theorem aRw:XB 233 aJv.fn:=by rfl
theorem aRv:XB 234 aFs.fn:=by rfl
theorem aRq:XB 235 aHA.fn:=by rfl
theorem aRP:XB 236 aIF.fn:=by rfl
theorem aQv:XB 237 aI9.fn:=by rfl
theorem aPv:XB 238 aFX.fn:=by rfl
theorem aRk:XB 239 aD5.fn:=by rfl
theorem aOq:XB 240 aFF.fn:=by rfl
theorem aQL:XB 241 aIJ.fn:=by rfl
theorem aRu:XB 242 aIU.fn:=by rfl
theorem aMW:XB 243 aHE.fn:=by rfl
theorem aQx:XB 244 aKi.fn:=by rfl
theorem aQH:XB 245 aIN.fn:=by rfl
theorem aOV:XB 246 aKq.fn:=by rfl
theorem aQ6:XB 247 aIi.fn:=by rfl
theorem aNx:XB 248 aFv.fn:=by rfl
theorem aNC:XB 249 aGf.fn:=by rfl
theorem aNg:XB 251 aEO.fn:=by rfl
theorem aPz:XB 252 aJb.fn:=by rfl
theorem aPE:XB 253 aBe.fn:=by rfl
theorem aQQ:XB 254 aJQ.fn:=by rfl
theorem aOu:XB 255 aJP.fn:=by rfl
theorem aN3:XB 256 aGb.fn:=by rfl
theorem aMP:XB 257 aHs.fn:=by rfl
theorem aP7:XB 258 aFR.fn:=by rfl
theorem aDk:XB 259 aJY.fn:=by rfl
theorem aOt:XB 260 aGl.fn:=by rfl
theorem aN0:XB 261 aEW.fn:=by rfl
theorem aND:XB 262 aIR.fn:=by rfl
theorem aM0:XB 263 aJx.fn:=by rfl
theorem aNb:XB 264 aJr.fn:=by rfl
theorem aPT:XB 271 aFj.fn:=by rfl
theorem aO9:XB 277 aHf.fn:=by rfl
theorem aPd:XB 284 aDI.fn:=by rfl
theorem ND:XB 285 aBD.fn:=by rfl
theorem aPW:XB 287 aJq.fn:=by rfl
theorem z6:XB 288 aFc.fn:=by rfl
theorem aOA:XB 289 aFz.fn:=by rfl
theorem aQ4:XB 290 aGR.fn:=by rfl
theorem aOP:XB 291 aH6.fn:=by rfl
theorem aMq:XB 292 aFa.fn:=by rfl
theorem aPg:XB 293 aJ1.fn:=by rfl
theorem aNO:XB 294 aI2.fn:=by rfl
theorem aLL:XB 295 aGr.fn:=by rfl
theorem aQo:XB 296 aIK.fn:=by rfl
theorem aMI:XB 297 aFD.fn:=by rfl
theorem aO4:XB 298 aHk.fn:=by rfl
theorem aOv:XB 299 aIk.fn:=by rfl
theorem aOL:XB 300 aFw.fn:=by rfl
theorem aPV:XB 301 aFr.fn:=by rfl
theorem K9:XB 302 aEC.fn:=by rfl
theorem aNd:XB 303 ZA.fn:=by rfl
theorem aPx:XB 304 aGH.fn:=by rfl
theorem aBt:XB 305 aB5.fn:=by rfl
theorem aLZ:XB 306 aGJ.fn:=by rfl
theorem aM4:XB 307 aIr.fn:=by rfl
theorem aOw:XB 308 aDi.fn:=by rfl
theorem aNV:XB 309 X5.fn:=by rfl
theorem aRo:XB 310 WK.fn:=by rfl
theorem aNR:XB 312 ZW.fn:=by rfl
theorem aPI:XB 315 aDK.fn:=by rfl
theorem aRd:XB 316 Z8.fn:=by rfl
theorem aRQ:XB 330 aCG.fn:=by rfl
theorem aCC:XB 331 ZC.fn:=by rfl
theorem AI:XB 332 aF0.fn:=by rfl
theorem aRz:XB 333 aIP.fn:=by rfl
theorem aOh:XB 334 aEB.fn:=by rfl
theorem aLN:XB 335 aHZ.fn:=by rfl
theorem aRM:XB 336 aEI.fn:=by rfl
theorem aMi:XB 337 WM.fn:=by rfl
theorem aNL:XB 339 V3.fn:=by rfl
theorem aRj:XB 340 aHb.fn:=by rfl
theorem aOO:XB 341 aIe.fn:=by rfl
theorem XI:XB 342 aIv.fn:=by rfl
theorem aNn:XB 343 N0.fn:=by rfl
theorem aMv:XB 349 aIl.fn:=by rfl
theorem aOd:XB 350 aHU.fn:=by rfl
theorem aRJ:XB 351 aFM.fn:=by rfl
theorem aNF:XB 352 aJE.fn:=by rfl
theorem aMA:XB 353 aJF.fn:=by rfl
theorem aOy:XB 354 aCT.fn:=by rfl
theorem aNH:XB 355 aDo.fn:=by rfl
theorem aQB:XB 356 aB6.fn:=by rfl
theorem aO8:XB 357 aJU.fn:=by rfl
theorem aYo:Cx.T.gl.tab 8=some ([.int .u8 0,.int .u8 1,.int .u8 28,.int .u8 2,.int .u8 29,.int .u8 14,.int .u8 24,.int .u8 3,.int .u8 30,.int .u8 22,.int .u8 20,.int .u8 15,.int .u8 25,.int .u8 17,.int .u8 4,.int .u8 8,.int .u8 31,.int .u8 27,.int .u8 13,.int .u8 23,.int .u8 21,.int .u8 19,.int .u8 16,.int .u8 7,.int .u8 26,.int .u8 12,.int .u8 18,.int .u8 6,.int .u8 11,.int .u8 5,.int .u8 10,.int .u8 9]:List Value):=by rfl
theorem aZa:Cx.T.gl.tab 9=some ([.int .u8 0,.int .u8 1,.int .u8 56,.int .u8 2,.int .u8 57,.int .u8 49,.int .u8 28,.int .u8 3,.int .u8 61,.int .u8 58,.int .u8 42,.int .u8 50,.int .u8 38,.int .u8 29,.int .u8 17,.int .u8 4,.int .u8 62,.int .u8 47,.int .u8 59,.int .u8 36,.int .u8 45,.int .u8 43,.int .u8 51,.int .u8 22,.int .u8 53,.int .u8 39,.int .u8 33,.int .u8 30,.int .u8 24,.int .u8 18,.int .u8 12,.int .u8 5,.int .u8 63,.int .u8 55,.int .u8 48,.int .u8 27,.int .u8 60,.int .u8 41,.int .u8 37,.int .u8 16,.int .u8 46,.int .u8 35,.int .u8 44,.int .u8 21,.int .u8 52,.int .u8 32,.int .u8 23,.int .u8 11,.int .u8 54,.int .u8 26,.int .u8 40,.int .u8 15,.int .u8 34,.int .u8 20,.int .u8 31,.int .u8 10,.int .u8 25,.int .u8 14,.int .u8 19,.int .u8 9,.int .u8 13,.int .u8 8,.int .u8 7,.int .u8 6]:List Value):=by rfl
theorem aYB:Cx.T.gl.tab 5=some ([.int .u64 1,.int .u64 10,.int .u64 100,.int .u64 1000,.int .u64 10000,.int .u64 100000,.int .u64 1000000,.int .u64 10000000,.int .u64 100000000,.int .u64 1000000000,.int .u64 10000000000,.int .u64 100000000000,.int .u64 1000000000000,.int .u64 10000000000000,.int .u64 100000000000000,.int .u64 1000000000000000,.int .u64 10000000000000000,.int .u64 100000000000000000,.int .u64 1000000000000000000,.int .u64 10000000000000000000]:List Value):=by rfl
theorem aWH:Cx.T.gl.tab 11=some ([.int .u8 128,.int .u8 191,.int .u8 160,.int .u8 191,.int .u8 128,.int .u8 159,.int .u8 144,.int .u8 191,.int .u8 128,.int .u8 143,.int .u8 0,.int .u8 0,.int .u8 0,.int .u8 0,.int .u8 0,.int .u8 0,.int .u8 0,.int .u8 0,.int .u8 0,.int .u8 0,.int .u8 0,.int .u8 0,.int .u8 0,.int .u8 0,.int .u8 0,.int .u8 0,.int .u8 0,.int .u8 0,.int .u8 0,.int .u8 0,.int .u8 0,.int .u8 0]:List Value):=by rfl
theorem aYY:Cx.T.gl.tab 0=some ([.int .i64 4,.int .i64 2,.int .i64 4,.int .i64 4,.int .i64 4]:List Value):=by rfl
theorem aX9:Cx.T.gl.tab 4=some ([.int .u8 0,.int .u8 35,.int .u8 38,.int .u8 29,.int .u8 7,.int .u8 7,.int .u8 15,.int .u8 32,.int .u8 92]:List Value):=by rfl
theorem aXK:Cx.T.gl.tab 2=some ([.int .u8 0,.int .u8 1,.int .u8 1,.int .u8 1,.int .u8 3,.int .u8 3,.int .u8 2,.int .u8 2,.int .u8 2,.int .u8 2,.int .u8 3,.int .u8 3,.int .u8 3]:List Value):=by rfl
theorem aYW:Cx.T.gl.tab 1=some ([.string ⟨#[]⟩,.string ⟨#[71,101,116,83]⟩,.string ⟨#[71,101,116,77]⟩,.string ⟨#[80,117,116]⟩,.string ⟨#[68,111,110,101]⟩,.string ⟨#[67,111,112,121]⟩,.string ⟨#[70,119,100,83]⟩,.string ⟨#[70,119,100,77]⟩,.string ⟨#[73,110,118]⟩,.string ⟨#[80,117,116,65,99,107]⟩,.string ⟨#[86,97,108,117,101]⟩,.string ⟨#[71,114,97,110,116]⟩,.string ⟨#[73,110,118,65,99,107]⟩]:List Value):=by rfl
abbrev PS(f:FuncId):Prop:=∀{zs:List A}{dst:Option Nat}{ms:List MOp}{st:Ev.St}{k:List It}{Q:Ex->Ev.St->Prop},f7 Cx f zs dst ms st k Q↔JB Cx f (eH st.H zs) (zs.all shut) dst 0 ms st k Q
theorem ps8:PS 8:=aD rfl
theorem ps9:PS 9:=aD rfl
theorem aYj:PS 10:=aD rfl
theorem aXM:PS 11:=aD rfl
theorem aYO:PS 17:=aD rfl
theorem aYd:PS 19:=aD rfl
theorem aXT:PS 27:=aD rfl
theorem aYF:PS 28:=aD rfl
theorem aY2:PS 32:=aD rfl
theorem aX4:PS 33:=aD rfl
theorem aY5:PS 34:=aD rfl
theorem aYs:PS 35:=aD rfl
theorem aXP:PS 44:=aD rfl
theorem aYM:PS 45:=aD rfl
theorem aXU:PS 46:=aD rfl
theorem aY6:PS 47:=aD rfl
theorem aYr:PS 48:=aD rfl
theorem aY9:PS 49:=aD rfl
theorem aYG:PS 50:=aD rfl
theorem aZh:PS 55:=aD rfl
theorem aYg:PS 57:=aD rfl
theorem aZj:PS 64:=aD rfl
theorem aYt:PS 65:=aD rfl
theorem aXY:PS 68:=aD rfl
theorem aYx:PS 70:=aD rfl
theorem aXQ:PS 75:=aD rfl
theorem aY3:PS 80:=aD rfl
theorem aXI:PS 81:=aD rfl
theorem aX1:PS 82:=aD rfl
theorem aY1:PS 84:=aD rfl
theorem aYC:PS 86:=aD rfl
theorem aX2:PS 87:=aD rfl
theorem aYa:PS 88:=aD rfl
theorem aYP:PS 92:=aD rfl
theorem aZf:PS 94:=aD rfl
theorem aYX:PS 95:=aD rfl
theorem aXH:PS 98:=aD rfl
theorem aYu:PS 99:=aD rfl
theorem aVD:PS 105:=aD rfl
theorem aVl:PS 108:=aD rfl
theorem aUd:PS 110:=aD rfl
theorem aUx:PS 111:=aD rfl
theorem aSG:PS 112:=aD rfl
theorem aUK:PS 114:=aD rfl
theorem aTV:PS 115:=aD rfl
theorem aSW:PS 118:=aD rfl
theorem aVR:PS 119:=aD rfl
theorem aTm:PS 120:=aD rfl
theorem aTt:PS 122:=aD rfl
theorem aXi:PS 123:=aD rfl
theorem aUu:PS 126:=aD rfl
theorem aUt:PS 128:=aD rfl
theorem aTT:PS 131:=aD rfl
theorem aW1:PS 135:=aD rfl
theorem aSu:PS 138:=aD rfl
theorem aV4:PS 141:=aD rfl
theorem aSI:PS 143:=aD rfl
theorem aTJ:PS 144:=aD rfl
theorem aSj:PS 147:=aD rfl
theorem aSt:PS 149:=aD rfl
theorem aSy:PS 150:=aD rfl
theorem aVy:PS 151:=aD rfl
theorem aWX:PS 153:=aD rfl
theorem aWw:PS 154:=aD rfl
theorem aW4:PS 157:=aD rfl
theorem aWY:PS 158:=aD rfl
theorem aT9:PS 159:=aD rfl
theorem aVE:PS 166:=aD rfl
theorem aUD:PS 174:=aD rfl
theorem aUS:PS 177:=aD rfl
theorem aUw:PS 178:=aD rfl
theorem aTr:PS 179:=aD rfl
theorem aWZ:PS 181:=aD rfl
theorem aVz:PS 187:=aD rfl
theorem aSM:PS 188:=aD rfl
theorem aVj:PS 191:=aD rfl
theorem aVC:PS 192:=aD rfl
theorem aU1:PS 193:=aD rfl
theorem aUO:PS 194:=aD rfl
theorem aSN:PS 195:=aD rfl
theorem aUT:PS 196:=aD rfl
theorem aXa:PS 199:=aD rfl
theorem aWo:PS 200:=aD rfl
theorem aTs:PS 201:=aD rfl
theorem aUf:PS 202:=aD rfl
theorem aSX:PS 205:=aD rfl
theorem aWb:PS 206:=aD rfl
theorem aVo:PS 209:=aD rfl
theorem aWN:PS 213:=aD rfl
theorem aTh:PS 214:=aD rfl
theorem aSF:PS 220:=aD rfl
theorem aTM:PS 222:=aD rfl
theorem aU4:PS 223:=aD rfl
theorem aUr:PS 227:=aD rfl
theorem aVP:PS 233:=aD rfl
theorem rB:PS 250:=aD rfl
theorem aW6:PS 251:=aD rfl
theorem aWr:PS 252:=aD rfl
theorem aW7:PS 253:=aD rfl
theorem aSp:PS 261:=aD rfl
theorem aVw:PS 271:=aD rfl
theorem aS7:PS 277:=aD rfl
theorem aUA:PS 284:=aD rfl
theorem aVe:PS 287:=aD rfl
theorem aS5:PS 299:=aD rfl
theorem aSk:PS 306:=aD rfl
theorem aWU:PS 330:=aD rfl
theorem aTa:PS 333:=aD rfl
theorem aSP:PS 334:=aD rfl
theorem aUI:PS 335:=aD rfl
theorem aU2:PS 336:=aD rfl
theorem aV1:PS 337:=aD rfl
theorem aTH:PS 343:=aD rfl
theorem aWO:PS 346:=aD rfl
theorem aWl:PS 348:=aD rfl
theorem aWc:PS 350:=aD rfl
theorem aV2:PS 351:=aD rfl
theorem aVI:PS 352:=aD rfl
theorem aSs:PS 357:=aD rfl
attribute [go_sem] g5 g8 aWs XK aS3 ZH g9 g10 aMU NK aOR MH g11 g14 g15 g16 aQW LE g17 aPe MG aQI LH g18 g19 aQi KG g21 aQk NR g22 aOE NQ aPO JY g23 aML NN g27 aPP MY g28 g29 g30 g31 g32 g33 g34 g35 aRs M4 aMK M9 g36 aLM MQ g37 g38 g39 g40 g41 g42 g43 g44 g45 g46 g47 g48 g49 aOD KM g50 g51 g52 g53 g54 g55 g56 g57 aNQ JV g58 g59 g60 g61 g62 g63 aPb N5 aRU KF aO7 KU aOz NO g64 aNo KC aOf LC g65 g66 g67 g68 aMQ LP g69 g70 g71 g72 g73 g74 g75 g76 g78 g79 g80 g81 g82 g83 g84 g85 g86 aPh K0 g87 aPR MK g88 aME MZ g89 g91 g92 g93 g94 g95 g97 aMj MC g98 g99 aMB aQ0 VT aHz aHr aHV aIy aJj aHd aFV aKn NI aEL aHa aJd X3 aDU D0 aI5 aIj aI8 aD2 aIH aFk aFT aGX aKf aE4 aJp aBi aKb F2 X8 aKu EO aIf aHu aHy Z5 aHl FW aIz aHT aJw aFE WS aHF EZ aJy FY aDR aEf aGg H6 aFZ FZ aIS E9 aGE EF aJ8 FT aN6 aPX aPS aPk aEw aAH aGV aKh aDM aFl aEu aFG LI aIu aOC aMF aGw aR5 aIn aCZ aGs EX aJM aIo aEx aGv aFn aEj aHM aEF aKl aH7 aJA aKd aH9 aAQ aEA aGd UD aFu F3 aG1 EC aBf aDT F9 aE0 aDp aGa EJ aHX aFh V7 aJK aGo aGT aFB aE5 aEv aG0 YR aKt DQ ZY aDO DV aEt UI aDY E5 aIZ E6 aDj aHJ D5 aJk aGn aAX aGi GI aGm YD aI0 FU aAE aGB aID aBK aBT aGc GE aJe aHv aFg aJg U3 aD8 DP aF4 EP aFf aEr aJz aJT aNy aEU aE3 aGC aFW aId aJv aFs aHA aIF aI9 aFX aD5 aFF aIJ aIU aHE aKi aIN aKq aIi aFv aGf aLQ aEO aJb aBe aG9 GC aJQ aJP aGb aHs aFR aJY aGl aEW aIR aJx aJr aRR aFj aI1 aJI aHf aDI aBD aFU E2 aQC aJq aFc aFz aGR aH6 aFa aJ1 aI2 aGr aIK aFD aHk aIk aFw aFr aEC ZA aGz EE aGH aB5 aGJ aIr aDi aG4 FB X5 aEh GK WK aHt ZW aRC aO1 aDK Z8 aCG aD7 EI ZC aF0 aIP aEB aHZ aEI WM aNG V3 aFC E7 aEJ D7 aHb aIe aIv N0 aO3 aOn aMb aIl aHU aFM aJE aJF aCT aF2 FQ aDo aED DU aB6 aJU ps8 ps9 aYj aXM aYO aYd aXT aYF aY2 aX4 aY5 aYs aXP aYM aXU aY6 aYr aY9 aYG aZh aYg aZj aYt aXY aYx aXQ aY3 aXI aX1 aY1 aYC aX2 aYa aYP aZf aYX aXH aYu aVD aVl aUd aUx aSG aUK aTV aSW aVR aTm aTt aXi aUu aUt aTT aW1 aSu aV4 aSI aTJ aSj aSt aSy aVy aWX aWw aW4 aWY aT9 aVE aUD aUS aUw aTr aWZ aVz aSM aVj aVC aU1 aUO aSN aUT aXa aWo aTs aUf aSX aWb aVo aWN aTh aSF aTM aU4 aUr aVP rB aW6 aWr aW7 aSp aVw aS7 aUA aVe aS5 aSk aWU aTa aSP aUI aU2 aV1 aTH aWO aWl aWc aV2 aVI aSs aX5 aX8 aYh aYT aZd aU9 aWC aT8 aWa aV9 aVU aVM aWn aV7 aVs aTZ aVS aWQ aUX aWv aSr aTq aSU aWA aUL aWt aSY aT1 aUC aVk aU3 aUB aST aWF aTQ aUl aWD aU5 aSv aWy aVa aS8 aVQ aSK aUQ aTI aUZ aQ2 aMV aNr aPH aR2 aSc aMe aNt aOX aPD aPc aLV aLD aP2 aR8 aPr aQU aPa aQy aRN aLJ aRH aLU aQs aRb aQF aLH aMz aOx aNJ aOK aNS aRV aMf aQS aNe aNB aRf aPw aMR aPi aRg aRK aMm aOM aOg aNf aM8 aOI aN8 aMh aOF aQu aMG aLY aR3 aP6 aMc aP3 aOi aRt aQa aL7 aNh aM5 aQK aMH aOl aSh aPQ aQ8 aP0 aMJ aN7 aMn aOH aOJ aOQ aPp th1 th3 th4 th5 th9 aGu aH8 aJX aIE aKs aGF aJB aGY aGG aJ6 aJs aFe aG2 aJS aEV aG8 aIQ aEd aKm aJc aHe aEy aIC aHg aF5 aIt KH aFN WT aKo aJZ aJt aEc aIA aHC aFi aEi aHq aHH aIG MO aIM RY SQ RK PO OW SA PA T4 RQ R7 P5 PD TX RA P7 QO Q7 PX QX S8 T7 SL O3 OP TZ UB OO OM B3 PR SD RB OL RD P9 T6 SR Q2 RO RU P1 SW O7 RW PL SF QJ OE SE PT QB RZ O1 TL TM RH OZ PQ SX TO OT Q3 OG RN O4 Q6 S9 Q8 SO TW PG TS R6 SU TH TU R8 RC Q4 aYo aZa aYB aWH aYY aX9 aXK aYW
abbrev Sv(s:ByteArray):A:=.v (.string s)
abbrev I8(n:Int):A:=.v (.int .u8 n)
abbrev I64(n:Int):A:=.v (.int .i64 n)
abbrev Bo(b:Bool):A:=.v (.bool b)
theorem aH4(c:UInt8):(⟨#[c]⟩:ByteArray)[0]?=some c:=rfl
theorem vI(c:UInt8):(⟨#[c]⟩:ByteArray).size=1:=rfl
theorem GH(c:Nat):∀(l:List UInt8) (i:Int),0<=i->-1<=fH c l i|[],i,h=>by simp[fH]|b::l,i,h=>by unfold fH;cases Nat.beq b.toNat c with|true=>simp only[cond_true];omega|false=>exact GH c l (i+1) (by omega)
theorem y4(c:Nat):∀(l:List UInt8) (i:Int),0<=i->fH c l i<i+l.length\/fH c l i=-1|[],i,h=>by simp[fH]|b::l,i,h=>by unfold fH;cases Nat.beq b.toNat c with|true=>simp only[cond_true,List.length_cons];omega|false=>rcases y4 c l (i+1) (by omega)with h1|h1;{left;simp only[cond_false,List.length_cons];omega};{right;exact h1}
theorem fO(s:ByteArray):s.data.toList.length=s.size:=rfl
def cF(c:Nat)(s:ByteArray):ByteArray×ByteArray×Bool:=if 0<=fH c s.data.toList 0 then(s.extract 0 (fH c s.data.toList 0).toNat,s.extract ((fH c s.data.toList 0).toNat+1) s.size,true)else(s,.empty,false)
theorem aYZ{s:ByteArray}{c:UInt8}:EvQ Cx 323 [Sv s,I8 c.toNat] (I64 (fH c.toNat s.data.toList 0)):=by refine mY ?_;(have h:(0:Int)<=c.toNat/\(c.toNat:Int)<=255:=by have:=c.toNat_lt;omega);have hx:Cx.X 323=pS 323:=rfl;have e1:Nat.beq 323 155=false:=rfl;have e2:Nat.beq 323 90=false:=rfl;have e3:Nat.beq 323 100=false:=rfl;rw[hx];simp[pS,aDZ,h,e1,e2,e3]
theorem aX6:g7 Cx 323=false:=rfl
theorem aNN(s:ByteArray)(c:UInt8):EvQ Cx 271 [Sv s,I8 c.toNat] (I64 (fH c.toNat s.data.toList 0)):=by refine evF aPT ?_;simp(disch:=omega)only[go_sem,simprocAttr,aD aX6,QK.use aYZ]
theorem AH(s:ByteArray)(c:UInt8):EvQ Cx 209 [Sv s,Sv ⟨#[c]⟩] (I64 (fH c.toNat s.data.toList 0)):=by(have h0:((⟨#[c]⟩:ByteArray).toList==s.toList)=true->fH c.toNat s.data.toList 0=0:=by intro h;have h:=eq_of_beq h;rw[ByteArray.toList_eq,ByteArray.toList_eq]at h;rw[<-h];simp[fH]);refine evF aQ5 ?_;cases hb:((⟨#[c]⟩:ByteArray).toList==s.toList)with|true=>have h1:=h0 hb;simp(disch:=omega)only[go_sem,simprocAttr,vI,hb,h1]|false=>simp(disch:=omega)only[go_sem,simprocAttr,aH4,vI,hb,QK.use (aNN s c)]
theorem oT(s:ByteArray)(hsz:s.size<=4294967296)(c:UInt8):EvQ Cx 98 [Sv s,Sv ⟨#[c]⟩] (.tup [Sv (cF c.toNat s).1,Sv (cF c.toNat s).2.1,Bo (cF c.toNat s).2.2]):=by(have h62:EvQ Cx 157 [Sv s,Sv ⟨#[c]⟩] (.tup [Sv (cF c.toNat s).1,Sv (cF c.toNat s).2.1,Bo (cF c.toNat s).2.2]):=by refine evF aRG ?_;have hl:=y4 c.toNat s.data.toList 0 (by omega);have hg:=GH c.toNat s.data.toList 0 (by omega);rw[fO]at hl;by_cases hi:0<=fH c.toNat s.data.toList 0;{(have hc:cF c.toNat s=(s.extract 0 (fH c.toNat s.data.toList 0).toNat,s.extract ((fH c.toNat s.data.toList 0).toNat+1) s.size,true):=by unfold cF;rw[if_pos hi]);rw[hc];have hq:=AH s c;generalize fH c.toNat s.data.toList 0=i at*;obtain⟨n,rfl⟩:=Int.eq_ofNat_of_zero_le hi;(have hn:n<s.size:=by omega);simp(disch:=omega)only[go_sem,simprocAttr,vI,QK.use hq];rfl};{(have hc:cF c.toNat s=(s,.empty,false):=by unfold cF;rw[if_neg hi]);rw[hc];(have hi':fH c.toNat s.data.toList 0=-1:=by omega);simp(disch:=omega)only[go_sem,simprocAttr,QK.use (AH s c),hi'];rfl});refine evF aVq ?_;simp(disch:=omega)only[go_sem,simprocAttr,QK.use h62]
def aAS(f:FuncId):Option (List A->aG->Option (A×aG)):=bif Nat.beq f 77 then some (K7 Cy)else GT f
theorem YV:∀f g zs H x H',aAS f=some g->g zs H=some (x,H')->qQ Cy.T Tryz.prog f zs H x H':=by intro f g zs H x H' hg h;unfold aAS at hg;cases h1:Nat.beq f 77 with|true=>obtain rfl:=Nat.eq_of_beq_eq_true h1;rw[h1,cond_true]at hg;obtain rfl:=Option.some.inj hg;exact aAq sG h|false=>rw[h1,cond_false]at hg;exact sG.extO f g zs H x H' hg h
def aAi(f:FuncId):Option MFn:=bif Nat.beq f 16||Nat.beq f 23 then(Cy.B f).map fun m=>{m with mode:=.pass}else Cy.B f
theorem aAn:∀f m,aAi f=some m->aQj Tryz.prog f m:=by intro f m h;unfold aAi at h;cases hb:Nat.beq f 16||Nat.beq f 23 with|true=>(rw[hb,cond_true]at h;cases h1:Cy.B f with|none=>rw[h1]at h;cases h|some m0=>rw[h1]at h;obtain rfl:=Option.some.inj h;exact sG.fns f m0 h1)|false=>rw[hb,cond_false]at h;exact sG.fns f m h
abbrev i8(n:Int):A:=.v (.int .u8 n)
abbrev i64(n:Int):A:=.v (.int .i64 n)
abbrev bo(b:Bool):A:=.v (.bool b)
abbrev sA(l:Array UInt8):A:=.v (.string ⟨l⟩)
def rp(n:Nat)(l:List A):List A:=(List.replicate n l).flatten
structure BN(a:A) where
 m:A
 h:a=m
def CS(X:FuncId->List A->Option A):Ctx:=⟨Cy.T,aAi,X,aAS⟩
theorem aLx{X:FuncId->List A->Option A}(h:QOk Cy.T Tryz.prog X):kN Tryz.prog (CS X):=⟨sG.mixed,sG.types,sG.loops,aAn,h,YV⟩
theorem aLy:QOk Cy.T Tryz.prog zK:=sG.ext
def T5:List (List A×A)->List A->Option A|[],_=>none|p::l,zs=>bif eqL p.1 zs then some p.2 else T5 l zs
theorem C7:∀{l:List (List A×A)}{zs:List A}{r:A},T5 l zs=some r->(zs,r)∈l|[],_,_,h=>by cases h|p::l,zs,r,h=>by unfold T5 at h;cases hb:eqL p.1 zs with|true=>simp only[hb,cond_true,Option.some.injEq]at h;rw[<-h,<-nQ _ _ hb];exact .head _|false=>simp only[hb,cond_false]at h;exact .tail _ (C7 h)
def orX(f0:Nat)(t:List (List A×A))(X:FuncId->List A->Option A)(f:FuncId)(zs:List A):Option A:=bif Nat.beq f f0 then T5 t zs else X f zs
theorem sP{X0 X:FuncId->List A->Option A}{f0:Nat}{t:List (List A×A)}(h0:QOk Cy.T Tryz.prog X0)(ht:∀p∈t,EvQ (CS X0) f0 p.1 p.2)(hX:QOk Cy.T Tryz.prog X):QOk Cy.T Tryz.prog (orX f0 t X):=by intro f zs r h;unfold orX at h;cases hb:Nat.beq f f0 with|false=>simp only[hb,cond_false]at h;exact hX f zs r h|true=>obtain rfl:=Nat.eq_of_beq_eq_true hb;simp only[hb,cond_true]at h;obtain⟨N,hN⟩:=ht _ (C7 h);exact(jM (aLx h0) N).1 f zs r hN
