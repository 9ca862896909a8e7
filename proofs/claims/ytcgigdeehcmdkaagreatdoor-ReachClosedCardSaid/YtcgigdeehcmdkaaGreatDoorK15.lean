/- The evaluator's context: types and bodies, and that they are the program's. Printed by wip/ev/gen/ctx.py. -/
import Derived.Test.YtcgigdeehcmdkaaGreatDoorK11
import Derived.Test.YtcgigdeehcmdkaaGreatDoorK12
import Derived.Test.YtcgigdeehcmdkaaGreatDoorK13
import Derived.Test.YtcgigdeehcmdkaaGreatDoorK14
import Derived.Test.YtcgigdeehcmdkaaGreatDoorK08
import Derived.Test.YtcgigdeehcmdkaaGreatDoorK09
set_option linter.all false
namespace Go.Proofs.YtcgigdeehcmdkaaGreatDoor.Ev
open Go Go.RowKit
set_option maxRecDepth 100000
def aK7:List (Nat×List Value):=[(3,[.int .u8 0,.int .u8 1,.int .u8 56,.int .u8 2,.int .u8 57,.int .u8 49,.int .u8 28,.int .u8 3,.int .u8 61,.int .u8 58,.int .u8 42,.int .u8 50,.int .u8 38,.int .u8 29,.int .u8 17,.int .u8 4,.int .u8 62,.int .u8 47,.int .u8 59,.int .u8 36,.int .u8 45,.int .u8 43,.int .u8 51,.int .u8 22,.int .u8 53,.int .u8 39,.int .u8 33,.int .u8 30,.int .u8 24,.int .u8 18,.int .u8 12,.int .u8 5,.int .u8 63,.int .u8 55,.int .u8 48,.int .u8 27,.int .u8 60,.int .u8 41,.int .u8 37,.int .u8 16,.int .u8 46,.int .u8 35,.int .u8 44,.int .u8 21,.int .u8 52,.int .u8 32,.int .u8 23,.int .u8 11,.int .u8 54,.int .u8 26,.int .u8 40,.int .u8 15,.int .u8 34,.int .u8 20,.int .u8 31,.int .u8 10,.int .u8 25,.int .u8 14,.int .u8 19,.int .u8 9,.int .u8 13,.int .u8 8,.int .u8 7,.int .u8 6]),(0,[.int .i64 4,.int .i64 2,.int .i64 4,.int .i64 4,.int .i64 4]),(4,[.int .u8 0,.int .u8 35,.int .u8 38,.int .u8 29,.int .u8 7,.int .u8 7,.int .u8 15,.int .u8 32,.int .u8 92]),(1,[.int .u8 0,.int .u8 96,.int .u8 96,.int .u8 104,.int .u8 96,.int .u8 104,.int .u8 145,.int .u8 147,.int .u8 145,.int .u8 144,.int .u8 190,.int .u8 146,.int .u8 160]),(2,[.int .u8 0,.int .u8 1,.int .u8 1,.int .u8 1,.int .u8 3,.int .u8 3,.int .u8 2,.int .u8 2,.int .u8 2,.int .u8 2,.int .u8 3,.int .u8 3,.int .u8 3])]
def aRd:BT Ty:=(.node 215 M7.t (.node 83 aI6.t (.node 42 aCE (.node 27 aFp.t (.node 20 aCH.t (.node 4 th4.t (.node 3 th3.t (.node 1 th1.t .nil .nil) .nil) (.node 9 th9.t (.node 5 th5.t .nil .nil) .nil)) (.node 24 aH5.t (.node 23 aGr.t (.node 22 aCv.t .nil .nil) .nil) (.node 25 aGZ.t .nil .nil))) (.node 36 aHj.t (.node 33 aIj.t (.node 31 aET.t (.node 29 aGB.t .nil .nil) .nil) (.node 34 aCl.t .nil .nil)) (.node 39 aFh.t (.node 38 aHf (.node 37 aF2 .nil .nil) .nil) (.node 40 aG5 .nil .nil)))) (.node 59 aIb.t (.node 51 aGd.t (.node 46 aF4.t (.node 45 aDY.t (.node 44 aIY .nil .nil) .nil) (.node 49 aF5.t (.node 48 aIE.t .nil .nil) .nil)) (.node 56 aDN.t (.node 55 aBT.t (.node 54 aAK.t .nil .nil) .nil) (.node 57 aFk.t .nil .nil))) (.node 65 GM.t (.node 63 UW.t (.node 61 aFn.t (.node 60 aHA.t .nil .nil) .nil) (.node 64 aC2 .nil .nil)) (.node 77 FJ.t (.node 73 aHJ.t (.node 67 aCx.t .nil .nil) .nil) (.node 79 aDz.t .nil .nil))))) (.node 131 M9.t (.node 116 NW.t (.node 106 N9.t (.node 97 aDO.t (.node 95 aDn.t (.node 88 aDF.t .nil .nil) .nil) (.node 102 M0.t (.node 99 aCQ.t .nil .nil) .nil)) (.node 111 NN.t (.node 110 RO.t (.node 108 O4.t .nil .nil) .nil) (.node 113 RN.t .nil .nil))) (.node 124 A6.t (.node 120 A3.t (.node 118 vH.t (.node 117 OL.t .nil .nil) .nil) (.node 122 QS.t .nil .nil)) (.node 128 AX.t (.node 126 MI (.node 125 AD .nil .nil) .nil) (.node 129 P7.t .nil .nil)))) (.node 162 R9.t (.node 148 PH.t (.node 145 NH.t (.node 139 PL.t (.node 133 A8 .nil .nil) .nil) (.node 146 RH.t .nil .nil)) (.node 155 N3.t (.node 153 MP.t (.node 149 SD.t .nil .nil) .nil) (.node 159 P6.t .nil .nil))) (.node 186 Q8.t (.node 165 MQ.t (.node 164 Q6.t (.node 163 OH.t .nil .nil) .nil) (.node 166 PQ.t .nil .nil)) (.node 212 OY.t (.node 205 NL.t (.node 196 QR.t .nil .nil) .nil) (.node 213 GY.t .nil .nil)))))) (.node 356 MY.t (.node 285 PU.t (.node 249 PG.t (.node 242 QZ.t (.node 237 PA.t (.node 235 OI.t (.node 226 u4.t .nil .nil) .nil) (.node 241 NK.t (.node 239 M6.t .nil .nil) .nil)) (.node 247 HQ.t (.node 245 ML.t (.node 244 ND.t .nil .nil) .nil) (.node 248 NZ.t .nil .nil))) (.node 273 Q9.t (.node 257 PP.t (.node 254 OT.t (.node 252 NA.t .nil .nil) .nil) (.node 264 QF.t .nil .nil)) (.node 278 N8.t (.node 277 NV.t (.node 275 OO.t .nil .nil) .nil) (.node 283 RF.t .nil .nil)))) (.node 340 SC.t (.node 318 MT.t (.node 315 OU.t (.node 314 OM.t (.node 287 QE.t .nil .nil) .nil) (.node 316 OJ.t .nil .nil)) (.node 336 OG.t (.node 321 PC.t (.node 320 RM.t .nil .nil) .nil) (.node 337 NC.t .nil .nil))) (.node 349 MH.t (.node 345 MS.t (.node 344 RK.t (.node 342 NE.t .nil .nil) .nil) (.node 348 HT.t .nil .nil)) (.node 353 QM.t (.node 352 RP.t (.node 351 OC.t .nil .nil) .nil) (.node 355 H4.t .nil .nil))))) (.node 436 O5.t (.node 397 Q0.t (.node 375 RC.t (.node 365 OP.t (.node 364 QW.t (.node 357 PF.t .nil .nil) .nil) (.node 374 OW.t (.node 371 O6.t .nil .nil) .nil)) (.node 388 RU.t (.node 377 PT.t (.node 376 QB.t .nil .nil) .nil) (.node 391 NQ.t .nil .nil))) (.node 427 MK.t (.node 412 N6.t (.node 405 OV.t (.node 403 Q1.t .nil .nil) .nil) (.node 424 O0.t .nil .nil)) (.node 432 M8.t (.node 431 PJ.t (.node 429 R4.t .nil .nil) .nil) (.node 435 RW.t .nil .nil)))) (.node 462 OD.t (.node 450 QP.t (.node 442 OE.t (.node 440 SA.t (.node 438 PX.t .nil .nil) .nil) (.node 449 NO.t .nil .nil)) (.node 455 QT.t (.node 454 NS.t (.node 453 M4.t .nil .nil) .nil) (.node 460 N7.t .nil .nil))) (.node 485 R3.t (.node 479 RA (.node 471 QY.t (.node 467 PO.t .nil .nil) .nil) (.node 480 N5.t .nil .nil)) (.node 496 QQ.t (.node 493 O1.t (.node 491 MW.t .nil .nil) .nil) (.node 500 RJ.t .nil .nil)))))))
def aR1:BT MFn:=(.node 211 aF6.fn (.node 109 aDt.fn (.node 58 g58.fn (.node 34 g34.fn (.node 21 g21.fn (.node 11 g11.fn (.node 8 g8.fn (.node 7 g7.fn (.node 6 g6.fn .nil .nil) .nil) (.node 10 g10.fn (.node 9 g9.fn .nil .nil) .nil)) (.node 17 g17.fn (.node 14 g14.fn (.node 12 g12.fn .nil .nil) .nil) (.node 20 g20.fn (.node 18 g18.fn .nil .nil) .nil))) (.node 28 g28.fn (.node 25 g25.fn (.node 24 g24.fn (.node 22 g22.fn .nil .nil) .nil) (.node 27 g27.fn (.node 26 g26.fn .nil .nil) .nil)) (.node 32 g32.fn (.node 31 g31.fn (.node 30 g30.fn .nil .nil) .nil) (.node 33 g33.fn .nil .nil)))) (.node 46 g46.fn (.node 40 g40.fn (.node 37 g37.fn (.node 36 g36.fn (.node 35 g35.fn .nil .nil) .nil) (.node 39 g39.fn (.node 38 g38.fn .nil .nil) .nil)) (.node 43 g43.fn (.node 42 g42.fn (.node 41 g41.fn .nil .nil) .nil) (.node 45 g45.fn (.node 44 g44.fn .nil .nil) .nil))) (.node 53 g53.fn (.node 49 g49.fn (.node 48 g48.fn (.node 47 g47.fn .nil .nil) .nil) (.node 51 g51.fn (.node 50 g50.fn .nil .nil) .nil)) (.node 56 g56.fn (.node 55 g55.fn (.node 54 g54.fn .nil .nil) .nil) (.node 57 g57.fn .nil .nil))))) (.node 87 g87.fn (.node 76 g76.fn (.node 70 g70.fn (.node 67 g67.fn (.node 60 g60.fn (.node 59 g59.fn .nil .nil) .nil) (.node 69 g69.fn (.node 68 g68.fn .nil .nil) .nil)) (.node 73 g73.fn (.node 72 g72.fn (.node 71 g71.fn .nil .nil) .nil) (.node 75 g75.fn (.node 74 g74.fn .nil .nil) .nil))) (.node 82 g82.fn (.node 79 g79.fn (.node 78 g78.fn (.node 77 g77.fn .nil .nil) .nil) (.node 81 g81.fn (.node 80 g80.fn .nil .nil) .nil)) (.node 85 g85.fn (.node 84 g84.fn (.node 83 g83.fn .nil .nil) .nil) (.node 86 g86.fn .nil .nil)))) (.node 98 g98.fn (.node 93 g93.fn (.node 90 g90.fn (.node 89 g89.fn (.node 88 g88.fn .nil .nil) .nil) (.node 92 g92.fn (.node 91 g91.fn .nil .nil) .nil)) (.node 96 g96.fn (.node 95 g95.fn (.node 94 g94.fn .nil .nil) .nil) (.node 97 g97.fn .nil .nil))) (.node 104 KI.fn (.node 101 aRj.fn (.node 100 aRY.fn (.node 99 g99.fn .nil .nil) .nil) (.node 103 aFr.fn (.node 102 aGL.fn .nil .nil) .nil)) (.node 107 aFJ.fn (.node 106 LI.fn (.node 105 aDa.fn .nil .nil) .nil) (.node 108 aEk.fn .nil .nil)))))) (.node 166 aGc.fn (.node 138 aMf.fn (.node 121 aIV.fn (.node 115 aEJ.fn (.node 112 aAi.fn (.node 111 aG9.fn (.node 110 aED.fn .nil .nil) .nil) (.node 114 aCL.fn (.node 113 aFi.fn .nil .nil) .nil)) (.node 118 aEV.fn (.node 117 aEC.fn (.node 116 aHg.fn .nil .nil) .nil) (.node 120 aHs.fn (.node 119 aCO.fn .nil .nil) .nil))) (.node 127 aK3.fn (.node 124 aEX.fn (.node 123 aIg.fn (.node 122 ZS.fn .nil .nil) .nil) (.node 126 aIe.fn (.node 125 aGY.fn .nil .nil) .nil)) (.node 130 aLq.fn (.node 129 aPp.fn (.node 128 aL5.fn .nil .nil) .nil) (.node 136 aSn.fn .nil .nil)))) (.node 155 aE1.fn (.node 149 aIl.fn (.node 146 aGm.fn (.node 145 XY.fn (.node 144 aMg.fn .nil .nil) .nil) (.node 148 aD9.fn (.node 147 Z1.fn .nil .nil) .nil)) (.node 152 aC5.fn (.node 151 aDy.fn (.node 150 aH2.fn .nil .nil) .nil) (.node 154 aFO.fn (.node 153 aHE.fn .nil .nil) .nil))) (.node 161 aIo.fn (.node 158 aEY.fn (.node 157 aFG.fn (.node 156 aIr.fn .nil .nil) .nil) (.node 160 KH.fn (.node 159 aHL.fn .nil .nil) .nil)) (.node 164 aHF.fn (.node 163 V2.fn (.node 162 aFF.fn .nil .nil) .nil) (.node 165 aGC.fn .nil .nil))))) (.node 189 aCn.fn (.node 178 aOe.fn (.node 172 aEE.fn (.node 169 aDH.fn (.node 168 aCJ.fn (.node 167 aC1.fn .nil .nil) .nil) (.node 171 aHQ.fn (.node 170 aC9.fn .nil .nil) .nil)) (.node 175 aMO.fn (.node 174 aAM.fn (.node 173 aIn.fn .nil .nil) .nil) (.node 177 aLM.fn (.node 176 aPL.fn .nil .nil) .nil))) (.node 184 aRQ.fn (.node 181 aKR.fn (.node 180 aK0.fn (.node 179 aRh.fn .nil .nil) .nil) (.node 183 aII.fn (.node 182 aPv.fn .nil .nil) .nil)) (.node 187 aOG.fn (.node 186 aNu.fn (.node 185 aP8.fn .nil .nil) .nil) (.node 188 aLd.fn .nil .nil)))) (.node 200 L1.fn (.node 195 aIB.fn (.node 192 aR2.fn (.node 191 aBh.fn (.node 190 aHD.fn .nil .nil) .nil) (.node 194 aNr.fn (.node 193 aQL.fn .nil .nil) .nil)) (.node 198 aDe.fn (.node 197 aLK.fn (.node 196 aNT.fn .nil .nil) .nil) (.node 199 aDB.fn .nil .nil))) (.node 206 aI5.fn (.node 203 aEg.fn (.node 202 aES.fn (.node 201 aFc.fn .nil .nil) .nil) (.node 205 aD6.fn (.node 204 aDG.fn .nil .nil) .nil)) (.node 209 aCN.fn (.node 208 aHm.fn (.node 207 aDQ.fn .nil .nil) .nil) (.node 210 aC3.fn .nil .nil))))))) (.node 308 aGG.fn (.node 259 aGf.fn (.node 236 aGW.fn (.node 225 aGJ.fn (.node 219 W4.fn (.node 214 aR4.fn (.node 213 aR5.fn (.node 212 aNi.fn .nil .nil) .nil) (.node 216 aK5.fn (.node 215 aNB.fn .nil .nil) .nil)) (.node 222 aID.fn (.node 221 aEb.fn (.node 220 aDm.fn .nil .nil) .nil) (.node 224 aE3.fn (.node 223 aAQ.fn .nil .nil) .nil))) (.node 231 aEm.fn (.node 228 UM.fn (.node 227 aGo.fn (.node 226 aDZ.fn .nil .nil) .nil) (.node 230 aGu.fn (.node 229 aGe.fn .nil .nil) .nil)) (.node 234 aNo.fn (.node 233 aMY.fn (.node 232 G9.fn .nil .nil) .nil) (.node 235 aPG.fn .nil .nil)))) (.node 248 aGP.fn (.node 242 aI2.fn (.node 239 aIR.fn (.node 238 aDi.fn (.node 237 aCK.fn .nil .nil) .nil) (.node 241 aHK.fn (.node 240 aFz.fn .nil .nil) .nil)) (.node 245 aHW.fn (.node 244 aGD.fn (.node 243 aFC.fn .nil .nil) .nil) (.node 247 aEd.fn (.node 246 aIW.fn .nil .nil) .nil))) (.node 254 aCV.fn (.node 251 aDj.fn (.node 250 aHb.fn (.node 249 aB3.fn .nil .nil) .nil) (.node 253 aBk.fn (.node 252 SQ.fn .nil .nil) .nil)) (.node 257 aDd.fn (.node 256 aGw.fn (.node 255 ZX.fn .nil .nil) .nil) (.node 258 aG7.fn .nil .nil))))) (.node 282 aQB.fn (.node 271 aF0.fn (.node 265 aFe.fn (.node 262 aIz.fn (.node 261 aFR.fn (.node 260 aFQ.fn .nil .nil) .nil) (.node 264 ZI.fn (.node 263 aCi.fn .nil .nil) .nil)) (.node 268 aQU.fn (.node 267 aGR.fn (.node 266 aHM.fn .nil .nil) .nil) (.node 270 aEz.fn (.node 269 aNW.fn .nil .nil) .nil))) (.node 277 aKu.fn (.node 274 aOJ.fn (.node 273 aPo.fn (.node 272 aQN.fn .nil .nil) .nil) (.node 276 aLZ.fn (.node 275 aOE.fn .nil .nil) .nil)) (.node 280 aEv.fn (.node 279 SF.fn (.node 278 aQb.fn .nil .nil) .nil) (.node 281 aLT.fn .nil .nil)))) (.node 296 aKy.fn (.node 291 VV.fn (.node 285 UO.fn (.node 284 aHp.fn (.node 283 aL0.fn .nil .nil) .nil) (.node 287 aLl.fn (.node 286 BP.fn .nil .nil) .nil)) (.node 294 aHH.fn (.node 293 aF3.fn (.node 292 XR.fn .nil .nil) .nil) (.node 295 aAB.fn .nil .nil))) (.node 303 aQd.fn (.node 299 aIQ.fn (.node 298 aEa.fn (.node 297 aGO.fn .nil .nil) .nil) (.node 302 aEi.fn (.node 300 aDU.fn .nil .nil) .nil)) (.node 306 aD0.fn (.node 305 aC0.fn (.node 304 aHX.fn .nil .nil) .nil) (.node 307 aEo.fn .nil .nil)))))) (.node 354 aLN.fn (.node 331 aGk.fn (.node 320 aCA.fn (.node 314 aFs.fn (.node 311 aDg.fn (.node 310 aGz.fn (.node 309 aFU.fn .nil .nil) .nil) (.node 313 aEF.fn (.node 312 aFH.fn .nil .nil) .nil)) (.node 317 aGI.fn (.node 316 aGM.fn (.node 315 aH7.fn .nil .nil) .nil) (.node 319 aFY.fn (.node 318 aHi.fn .nil .nil) .nil))) (.node 326 aRF.fn (.node 323 aBB.fn (.node 322 aFB.fn (.node 321 aHU.fn .nil .nil) .nil) (.node 325 aRR.fn (.node 324 aHI.fn .nil .nil) .nil)) (.node 329 aMR.fn (.node 328 aOC.fn (.node 327 aIc.fn .nil .nil) .nil) (.node 330 aA5.fn .nil .nil)))) (.node 343 aDV.fn (.node 337 aHY.fn (.node 334 aIh.fn (.node 333 aFw.fn (.node 332 aLC.fn .nil .nil) .nil) (.node 336 aEp.fn (.node 335 aB5.fn .nil .nil) .nil)) (.node 340 aEO.fn (.node 339 aCC.fn (.node 338 aER.fn .nil .nil) .nil) (.node 342 aDX.fn (.node 341 aIa.fn .nil .nil) .nil))) (.node 349 aMa.fn (.node 346 aC7.fn (.node 345 aCo.fn (.node 344 aCm.fn .nil .nil) .nil) (.node 348 aEG.fn (.node 347 aPf.fn .nil .nil) .nil)) (.node 352 aDo.fn (.node 351 aFA.fn (.node 350 aRE.fn .nil .nil) .nil) (.node 353 aA8.fn .nil .nil))))) (.node 377 ZO.fn (.node 366 aDE.fn (.node 360 aGs.fn (.node 357 aHC.fn (.node 356 aH4.fn (.node 355 aHB.fn .nil .nil) .nil) (.node 359 aCW.fn (.node 358 aDc.fn .nil .nil) .nil)) (.node 363 aFE.fn (.node 362 aEL.fn (.node 361 aFm.fn .nil .nil) .nil) (.node 365 aG8.fn (.node 364 aGt.fn .nil .nil) .nil))) (.node 372 aGx.fn (.node 369 XX.fn (.node 368 aEj.fn (.node 367 aE9.fn .nil .nil) .nil) (.node 371 aDx.fn (.node 370 aDR.fn .nil .nil) .nil)) (.node 375 Z8.fn (.node 374 aQI.fn (.node 373 aDS.fn .nil .nil) .nil) (.node 376 aAZ.fn .nil .nil)))) (.node 388 UQ.fn (.node 383 aFv.fn (.node 380 aG3.fn (.node 379 aMm.fn (.node 378 SX.fn .nil .nil) .nil) (.node 382 aFT.fn (.node 381 aIu.fn .nil .nil) .nil)) (.node 386 aPe.fn (.node 385 aHP.fn (.node 384 aHr.fn .nil .nil) .nil) (.node 387 aSq.fn .nil .nil))) (.node 394 aIt.fn (.node 391 aFo.fn (.node 390 aGU.fn (.node 389 aI3.fn .nil .nil) .nil) (.node 393 aCM.fn (.node 392 U2.fn .nil .nil) .nil)) (.node 397 YX.fn (.node 396 aH6.fn (.node 395 aCz.fn .nil .nil) .nil) (.node 398 ZG.fn .nil .nil))))))))
def Cz:Ctx:=⟨⟨aRd.get,⟨uZ aK7,aAg,aWP⟩⟩,aR1.get,VZ,PB⟩
theorem BK:kN Tryz.prog Cz:=XJ (by kernel_rfl) ⟨M7.h,⟨aI6.h,⟨(show qI Tryz.prog 42=some aCE by kernel_rfl),⟨aFp.h,⟨aCH.h,⟨th4.h,⟨th3.h,⟨th1.h,⟨⟩,⟨⟩⟩,⟨⟩⟩,⟨th9.h,⟨th5.h,⟨⟩,⟨⟩⟩,⟨⟩⟩⟩,⟨aH5.h,⟨aGr.h,⟨aCv.h,⟨⟩,⟨⟩⟩,⟨⟩⟩,⟨aGZ.h,⟨⟩,⟨⟩⟩⟩⟩,⟨aHj.h,⟨aIj.h,⟨aET.h,⟨aGB.h,⟨⟩,⟨⟩⟩,⟨⟩⟩,⟨aCl.h,⟨⟩,⟨⟩⟩⟩,⟨aFh.h,⟨(show qI Tryz.prog 38=some aHf by kernel_rfl),⟨(show qI Tryz.prog 37=some aF2 by kernel_rfl),⟨⟩,⟨⟩⟩,⟨⟩⟩,⟨(show qI Tryz.prog 40=some aG5 by kernel_rfl),⟨⟩,⟨⟩⟩⟩⟩⟩,⟨aIb.h,⟨aGd.h,⟨aF4.h,⟨aDY.h,⟨(show qI Tryz.prog 44=some aIY by kernel_rfl),⟨⟩,⟨⟩⟩,⟨⟩⟩,⟨aF5.h,⟨aIE.h,⟨⟩,⟨⟩⟩,⟨⟩⟩⟩,⟨aDN.h,⟨aBT.h,⟨aAK.h,⟨⟩,⟨⟩⟩,⟨⟩⟩,⟨aFk.h,⟨⟩,⟨⟩⟩⟩⟩,⟨GM.h,⟨UW.h,⟨aFn.h,⟨aHA.h,⟨⟩,⟨⟩⟩,⟨⟩⟩,⟨(show qI Tryz.prog 64=some aC2 by kernel_rfl),⟨⟩,⟨⟩⟩⟩,⟨FJ.h,⟨aHJ.h,⟨aCx.h,⟨⟩,⟨⟩⟩,⟨⟩⟩,⟨aDz.h,⟨⟩,⟨⟩⟩⟩⟩⟩⟩,⟨M9.h,⟨NW.h,⟨N9.h,⟨aDO.h,⟨aDn.h,⟨aDF.h,⟨⟩,⟨⟩⟩,⟨⟩⟩,⟨M0.h,⟨aCQ.h,⟨⟩,⟨⟩⟩,⟨⟩⟩⟩,⟨NN.h,⟨RO.h,⟨O4.h,⟨⟩,⟨⟩⟩,⟨⟩⟩,⟨RN.h,⟨⟩,⟨⟩⟩⟩⟩,⟨A6.h,⟨A3.h,⟨vH.h,⟨OL.h,⟨⟩,⟨⟩⟩,⟨⟩⟩,⟨QS.h,⟨⟩,⟨⟩⟩⟩,⟨AX.h,⟨(show qI Tryz.prog 126=some MI by kernel_rfl),⟨(show qI Tryz.prog 125=some AD by kernel_rfl),⟨⟩,⟨⟩⟩,⟨⟩⟩,⟨P7.h,⟨⟩,⟨⟩⟩⟩⟩⟩,⟨R9.h,⟨PH.h,⟨NH.h,⟨PL.h,⟨(show qI Tryz.prog 133=some A8 by kernel_rfl),⟨⟩,⟨⟩⟩,⟨⟩⟩,⟨RH.h,⟨⟩,⟨⟩⟩⟩,⟨N3.h,⟨MP.h,⟨SD.h,⟨⟩,⟨⟩⟩,⟨⟩⟩,⟨P6.h,⟨⟩,⟨⟩⟩⟩⟩,⟨Q8.h,⟨MQ.h,⟨Q6.h,⟨OH.h,⟨⟩,⟨⟩⟩,⟨⟩⟩,⟨PQ.h,⟨⟩,⟨⟩⟩⟩,⟨OY.h,⟨NL.h,⟨QR.h,⟨⟩,⟨⟩⟩,⟨⟩⟩,⟨GY.h,⟨⟩,⟨⟩⟩⟩⟩⟩⟩⟩,⟨MY.h,⟨PU.h,⟨PG.h,⟨QZ.h,⟨PA.h,⟨OI.h,⟨u4.h,⟨⟩,⟨⟩⟩,⟨⟩⟩,⟨NK.h,⟨M6.h,⟨⟩,⟨⟩⟩,⟨⟩⟩⟩,⟨HQ.h,⟨ML.h,⟨ND.h,⟨⟩,⟨⟩⟩,⟨⟩⟩,⟨NZ.h,⟨⟩,⟨⟩⟩⟩⟩,⟨Q9.h,⟨PP.h,⟨OT.h,⟨NA.h,⟨⟩,⟨⟩⟩,⟨⟩⟩,⟨QF.h,⟨⟩,⟨⟩⟩⟩,⟨N8.h,⟨NV.h,⟨OO.h,⟨⟩,⟨⟩⟩,⟨⟩⟩,⟨RF.h,⟨⟩,⟨⟩⟩⟩⟩⟩,⟨SC.h,⟨MT.h,⟨OU.h,⟨OM.h,⟨QE.h,⟨⟩,⟨⟩⟩,⟨⟩⟩,⟨OJ.h,⟨⟩,⟨⟩⟩⟩,⟨OG.h,⟨PC.h,⟨RM.h,⟨⟩,⟨⟩⟩,⟨⟩⟩,⟨NC.h,⟨⟩,⟨⟩⟩⟩⟩,⟨MH.h,⟨MS.h,⟨RK.h,⟨NE.h,⟨⟩,⟨⟩⟩,⟨⟩⟩,⟨HT.h,⟨⟩,⟨⟩⟩⟩,⟨QM.h,⟨RP.h,⟨OC.h,⟨⟩,⟨⟩⟩,⟨⟩⟩,⟨H4.h,⟨⟩,⟨⟩⟩⟩⟩⟩⟩,⟨O5.h,⟨Q0.h,⟨RC.h,⟨OP.h,⟨QW.h,⟨PF.h,⟨⟩,⟨⟩⟩,⟨⟩⟩,⟨OW.h,⟨O6.h,⟨⟩,⟨⟩⟩,⟨⟩⟩⟩,⟨RU.h,⟨PT.h,⟨QB.h,⟨⟩,⟨⟩⟩,⟨⟩⟩,⟨NQ.h,⟨⟩,⟨⟩⟩⟩⟩,⟨MK.h,⟨N6.h,⟨OV.h,⟨Q1.h,⟨⟩,⟨⟩⟩,⟨⟩⟩,⟨O0.h,⟨⟩,⟨⟩⟩⟩,⟨M8.h,⟨PJ.h,⟨R4.h,⟨⟩,⟨⟩⟩,⟨⟩⟩,⟨RW.h,⟨⟩,⟨⟩⟩⟩⟩⟩,⟨OD.h,⟨QP.h,⟨OE.h,⟨SA.h,⟨PX.h,⟨⟩,⟨⟩⟩,⟨⟩⟩,⟨NO.h,⟨⟩,⟨⟩⟩⟩,⟨QT.h,⟨NS.h,⟨M4.h,⟨⟩,⟨⟩⟩,⟨⟩⟩,⟨N7.h,⟨⟩,⟨⟩⟩⟩⟩,⟨R3.h,⟨(show qI Tryz.prog 479=some RA by kernel_rfl),⟨QY.h,⟨PO.h,⟨⟩,⟨⟩⟩,⟨⟩⟩,⟨N5.h,⟨⟩,⟨⟩⟩⟩,⟨QQ.h,⟨O1.h,⟨MW.h,⟨⟩,⟨⟩⟩,⟨⟩⟩,⟨RJ.h,⟨⟩,⟨⟩⟩⟩⟩⟩⟩⟩⟩ ⟨fk aF6 Tryz.func211,⟨fk aDt Tryz.func109,⟨fk g58 Tryz.func58,⟨fk g34 Tryz.func34,⟨fk g21 Tryz.func21,⟨fk g11 Tryz.func11,⟨fk g8 Tryz.func8,⟨fk g7 Tryz.func7,⟨fk g6 Tryz.func6,⟨⟩,⟨⟩⟩,⟨⟩⟩,⟨fk g10 Tryz.func10,⟨fk g9 Tryz.func9,⟨⟩,⟨⟩⟩,⟨⟩⟩⟩,⟨fk g17 Tryz.func17,⟨fk g14 Tryz.func14,⟨fk g12 Tryz.func12,⟨⟩,⟨⟩⟩,⟨⟩⟩,⟨fk g20 Tryz.func20,⟨fk g18 Tryz.func18,⟨⟩,⟨⟩⟩,⟨⟩⟩⟩⟩,⟨fk g28 Tryz.func28,⟨fk g25 Tryz.func25,⟨fk g24 Tryz.func24,⟨fk g22 Tryz.func22,⟨⟩,⟨⟩⟩,⟨⟩⟩,⟨fk g27 Tryz.func27,⟨fk g26 Tryz.func26,⟨⟩,⟨⟩⟩,⟨⟩⟩⟩,⟨fk g32 Tryz.func32,⟨fk g31 Tryz.func31,⟨fk g30 Tryz.func30,⟨⟩,⟨⟩⟩,⟨⟩⟩,⟨fk g33 Tryz.func33,⟨⟩,⟨⟩⟩⟩⟩⟩,⟨fk g46 Tryz.func46,⟨fk g40 Tryz.func40,⟨fk g37 Tryz.func37,⟨fk g36 Tryz.func36,⟨fk g35 Tryz.func35,⟨⟩,⟨⟩⟩,⟨⟩⟩,⟨fk g39 Tryz.func39,⟨fk g38 Tryz.func38,⟨⟩,⟨⟩⟩,⟨⟩⟩⟩,⟨fk g43 Tryz.func43,⟨fk g42 Tryz.func42,⟨fk g41 Tryz.func41,⟨⟩,⟨⟩⟩,⟨⟩⟩,⟨fk g45 Tryz.func45,⟨fk g44 Tryz.func44,⟨⟩,⟨⟩⟩,⟨⟩⟩⟩⟩,⟨fk g53 Tryz.func53,⟨fk g49 Tryz.func49,⟨fk g48 Tryz.func48,⟨fk g47 Tryz.func47,⟨⟩,⟨⟩⟩,⟨⟩⟩,⟨fk g51 Tryz.func51,⟨fk g50 Tryz.func50,⟨⟩,⟨⟩⟩,⟨⟩⟩⟩,⟨fk g56 Tryz.func56,⟨fk g55 Tryz.func55,⟨fk g54 Tryz.func54,⟨⟩,⟨⟩⟩,⟨⟩⟩,⟨fk g57 Tryz.func57,⟨⟩,⟨⟩⟩⟩⟩⟩⟩,⟨fk g87 Tryz.func87,⟨fk g76 Tryz.func76,⟨fk g70 Tryz.func70,⟨fk g67 Tryz.func67,⟨fk g60 Tryz.func60,⟨fk g59 Tryz.func59,⟨⟩,⟨⟩⟩,⟨⟩⟩,⟨fk g69 Tryz.func69,⟨fk g68 Tryz.func68,⟨⟩,⟨⟩⟩,⟨⟩⟩⟩,⟨fk g73 Tryz.func73,⟨fk g72 Tryz.func72,⟨fk g71 Tryz.func71,⟨⟩,⟨⟩⟩,⟨⟩⟩,⟨fk g75 Tryz.func75,⟨fk g74 Tryz.func74,⟨⟩,⟨⟩⟩,⟨⟩⟩⟩⟩,⟨fk g82 Tryz.func82,⟨fk g79 Tryz.func79,⟨fk g78 Tryz.func78,⟨fk g77 Tryz.func77,⟨⟩,⟨⟩⟩,⟨⟩⟩,⟨fk g81 Tryz.func81,⟨fk g80 Tryz.func80,⟨⟩,⟨⟩⟩,⟨⟩⟩⟩,⟨fk g85 Tryz.func85,⟨fk g84 Tryz.func84,⟨fk g83 Tryz.func83,⟨⟩,⟨⟩⟩,⟨⟩⟩,⟨fk g86 Tryz.func86,⟨⟩,⟨⟩⟩⟩⟩⟩,⟨fk g98 Tryz.func98,⟨fk g93 Tryz.func93,⟨fk g90 Tryz.func90,⟨fk g89 Tryz.func89,⟨fk g88 Tryz.func88,⟨⟩,⟨⟩⟩,⟨⟩⟩,⟨fk g92 Tryz.func92,⟨fk g91 Tryz.func91,⟨⟩,⟨⟩⟩,⟨⟩⟩⟩,⟨fk g96 Tryz.func96,⟨fk g95 Tryz.func95,⟨fk g94 Tryz.func94,⟨⟩,⟨⟩⟩,⟨⟩⟩,⟨fk g97 Tryz.func97,⟨⟩,⟨⟩⟩⟩⟩,⟨fk KI Tryz.func104,⟨fk aRj Tryz.func101,⟨fk aRY Tryz.func100,⟨fk g99 Tryz.func99,⟨⟩,⟨⟩⟩,⟨⟩⟩,⟨fk aFr Tryz.func103,⟨fk aGL Tryz.func102,⟨⟩,⟨⟩⟩,⟨⟩⟩⟩,⟨fk aFJ Tryz.func107,⟨fk LI Tryz.func106,⟨fk aDa Tryz.func105,⟨⟩,⟨⟩⟩,⟨⟩⟩,⟨fk aEk Tryz.func108,⟨⟩,⟨⟩⟩⟩⟩⟩⟩⟩,⟨fk aGc Tryz.func166,⟨fk aMf Tryz.func138,⟨fk aIV Tryz.func121,⟨fk aEJ Tryz.func115,⟨fk aAi Tryz.func112,⟨fk aG9 Tryz.func111,⟨fk aED Tryz.func110,⟨⟩,⟨⟩⟩,⟨⟩⟩,⟨fk aCL Tryz.func114,⟨fk aFi Tryz.func113,⟨⟩,⟨⟩⟩,⟨⟩⟩⟩,⟨fk aEV Tryz.func118,⟨fk aEC Tryz.func117,⟨fk aHg Tryz.func116,⟨⟩,⟨⟩⟩,⟨⟩⟩,⟨fk aHs Tryz.func120,⟨fk aCO Tryz.func119,⟨⟩,⟨⟩⟩,⟨⟩⟩⟩⟩,⟨fk aK3 Tryz.func127,⟨fk aEX Tryz.func124,⟨fk aIg Tryz.func123,⟨fk ZS Tryz.func122,⟨⟩,⟨⟩⟩,⟨⟩⟩,⟨fk aIe Tryz.func126,⟨fk aGY Tryz.func125,⟨⟩,⟨⟩⟩,⟨⟩⟩⟩,⟨fk aLq Tryz.func130,⟨fk aPp Tryz.func129,⟨fk aL5 Tryz.func128,⟨⟩,⟨⟩⟩,⟨⟩⟩,⟨fk aSn Tryz.func136,⟨⟩,⟨⟩⟩⟩⟩⟩,⟨fk aE1 Tryz.func155,⟨fk aIl Tryz.func149,⟨fk aGm Tryz.func146,⟨fk XY Tryz.func145,⟨fk aMg Tryz.func144,⟨⟩,⟨⟩⟩,⟨⟩⟩,⟨fk aD9 Tryz.func148,⟨fk Z1 Tryz.func147,⟨⟩,⟨⟩⟩,⟨⟩⟩⟩,⟨fk aC5 Tryz.func152,⟨fk aDy Tryz.func151,⟨fk aH2 Tryz.func150,⟨⟩,⟨⟩⟩,⟨⟩⟩,⟨fk aFO Tryz.func154,⟨fk aHE Tryz.func153,⟨⟩,⟨⟩⟩,⟨⟩⟩⟩⟩,⟨fk aIo Tryz.func161,⟨fk aEY Tryz.func158,⟨fk aFG Tryz.func157,⟨fk aIr Tryz.func156,⟨⟩,⟨⟩⟩,⟨⟩⟩,⟨fk KH Tryz.func160,⟨fk aHL Tryz.func159,⟨⟩,⟨⟩⟩,⟨⟩⟩⟩,⟨fk aHF Tryz.func164,⟨fk V2 Tryz.func163,⟨fk aFF Tryz.func162,⟨⟩,⟨⟩⟩,⟨⟩⟩,⟨fk aGC Tryz.func165,⟨⟩,⟨⟩⟩⟩⟩⟩⟩,⟨fk aCn Tryz.func189,⟨fk aOe Tryz.func178,⟨fk aEE Tryz.func172,⟨fk aDH Tryz.func169,⟨fk aCJ Tryz.func168,⟨fk aC1 Tryz.func167,⟨⟩,⟨⟩⟩,⟨⟩⟩,⟨fk aHQ Tryz.func171,⟨fk aC9 Tryz.func170,⟨⟩,⟨⟩⟩,⟨⟩⟩⟩,⟨fk aMO Tryz.func175,⟨fk aAM Tryz.func174,⟨fk aIn Tryz.func173,⟨⟩,⟨⟩⟩,⟨⟩⟩,⟨fk aLM Tryz.func177,⟨fk aPL Tryz.func176,⟨⟩,⟨⟩⟩,⟨⟩⟩⟩⟩,⟨fk aRQ Tryz.func184,⟨fk aKR Tryz.func181,⟨fk aK0 Tryz.func180,⟨fk aRh Tryz.func179,⟨⟩,⟨⟩⟩,⟨⟩⟩,⟨fk aII Tryz.func183,⟨fk aPv Tryz.func182,⟨⟩,⟨⟩⟩,⟨⟩⟩⟩,⟨fk aOG Tryz.func187,⟨fk aNu Tryz.func186,⟨fk aP8 Tryz.func185,⟨⟩,⟨⟩⟩,⟨⟩⟩,⟨fk aLd Tryz.func188,⟨⟩,⟨⟩⟩⟩⟩⟩,⟨fk L1 Tryz.func200,⟨fk aIB Tryz.func195,⟨fk aR2 Tryz.func192,⟨fk aBh Tryz.func191,⟨fk aHD Tryz.func190,⟨⟩,⟨⟩⟩,⟨⟩⟩,⟨fk aNr Tryz.func194,⟨fk aQL Tryz.func193,⟨⟩,⟨⟩⟩,⟨⟩⟩⟩,⟨fk aDe Tryz.func198,⟨fk aLK Tryz.func197,⟨fk aNT Tryz.func196,⟨⟩,⟨⟩⟩,⟨⟩⟩,⟨fk aDB Tryz.func199,⟨⟩,⟨⟩⟩⟩⟩,⟨fk aI5 Tryz.func206,⟨fk aEg Tryz.func203,⟨fk aES Tryz.func202,⟨fk aFc Tryz.func201,⟨⟩,⟨⟩⟩,⟨⟩⟩,⟨fk aD6 Tryz.func205,⟨fk aDG Tryz.func204,⟨⟩,⟨⟩⟩,⟨⟩⟩⟩,⟨fk aCN Tryz.func209,⟨fk aHm Tryz.func208,⟨fk aDQ Tryz.func207,⟨⟩,⟨⟩⟩,⟨⟩⟩,⟨fk aC3 Tryz.func210,⟨⟩,⟨⟩⟩⟩⟩⟩⟩⟩⟩,⟨fk aGG Tryz.func308,⟨fk aGf Tryz.func259,⟨fk aGW Tryz.func236,⟨fk aGJ Tryz.func225,⟨fk W4 Tryz.func219,⟨fk aR4 Tryz.func214,⟨fk aR5 Tryz.func213,⟨fk aNi Tryz.func212,⟨⟩,⟨⟩⟩,⟨⟩⟩,⟨fk aK5 Tryz.func216,⟨fk aNB Tryz.func215,⟨⟩,⟨⟩⟩,⟨⟩⟩⟩,⟨fk aID Tryz.func222,⟨fk aEb Tryz.func221,⟨fk aDm Tryz.func220,⟨⟩,⟨⟩⟩,⟨⟩⟩,⟨fk aE3 Tryz.func224,⟨fk aAQ Tryz.func223,⟨⟩,⟨⟩⟩,⟨⟩⟩⟩⟩,⟨fk aEm Tryz.func231,⟨fk UM Tryz.func228,⟨fk aGo Tryz.func227,⟨fk aDZ Tryz.func226,⟨⟩,⟨⟩⟩,⟨⟩⟩,⟨fk aGu Tryz.func230,⟨fk aGe Tryz.func229,⟨⟩,⟨⟩⟩,⟨⟩⟩⟩,⟨fk aNo Tryz.func234,⟨fk aMY Tryz.func233,⟨fk G9 Tryz.func232,⟨⟩,⟨⟩⟩,⟨⟩⟩,⟨fk aPG Tryz.func235,⟨⟩,⟨⟩⟩⟩⟩⟩,⟨fk aGP Tryz.func248,⟨fk aI2 Tryz.func242,⟨fk aIR Tryz.func239,⟨fk aDi Tryz.func238,⟨fk aCK Tryz.func237,⟨⟩,⟨⟩⟩,⟨⟩⟩,⟨fk aHK Tryz.func241,⟨fk aFz Tryz.func240,⟨⟩,⟨⟩⟩,⟨⟩⟩⟩,⟨fk aHW Tryz.func245,⟨fk aGD Tryz.func244,⟨fk aFC Tryz.func243,⟨⟩,⟨⟩⟩,⟨⟩⟩,⟨fk aEd Tryz.func247,⟨fk aIW Tryz.func246,⟨⟩,⟨⟩⟩,⟨⟩⟩⟩⟩,⟨fk aCV Tryz.func254,⟨fk aDj Tryz.func251,⟨fk aHb Tryz.func250,⟨fk aB3 Tryz.func249,⟨⟩,⟨⟩⟩,⟨⟩⟩,⟨fk aBk Tryz.func253,⟨fk SQ Tryz.func252,⟨⟩,⟨⟩⟩,⟨⟩⟩⟩,⟨fk aDd Tryz.func257,⟨fk aGw Tryz.func256,⟨fk ZX Tryz.func255,⟨⟩,⟨⟩⟩,⟨⟩⟩,⟨fk aG7 Tryz.func258,⟨⟩,⟨⟩⟩⟩⟩⟩⟩,⟨fk aQB Tryz.func282,⟨fk aF0 Tryz.func271,⟨fk aFe Tryz.func265,⟨fk aIz Tryz.func262,⟨fk aFR Tryz.func261,⟨fk aFQ Tryz.func260,⟨⟩,⟨⟩⟩,⟨⟩⟩,⟨fk ZI Tryz.func264,⟨fk aCi Tryz.func263,⟨⟩,⟨⟩⟩,⟨⟩⟩⟩,⟨fk aQU Tryz.func268,⟨fk aGR Tryz.func267,⟨fk aHM Tryz.func266,⟨⟩,⟨⟩⟩,⟨⟩⟩,⟨fk aEz Tryz.func270,⟨fk aNW Tryz.func269,⟨⟩,⟨⟩⟩,⟨⟩⟩⟩⟩,⟨fk aKu Tryz.func277,⟨fk aOJ Tryz.func274,⟨fk aPo Tryz.func273,⟨fk aQN Tryz.func272,⟨⟩,⟨⟩⟩,⟨⟩⟩,⟨fk aLZ Tryz.func276,⟨fk aOE Tryz.func275,⟨⟩,⟨⟩⟩,⟨⟩⟩⟩,⟨fk aEv Tryz.func280,⟨fk SF Tryz.func279,⟨fk aQb Tryz.func278,⟨⟩,⟨⟩⟩,⟨⟩⟩,⟨fk aLT Tryz.func281,⟨⟩,⟨⟩⟩⟩⟩⟩,⟨fk aKy Tryz.func296,⟨fk VV Tryz.func291,⟨fk UO Tryz.func285,⟨fk aHp Tryz.func284,⟨fk aL0 Tryz.func283,⟨⟩,⟨⟩⟩,⟨⟩⟩,⟨fk aLl Tryz.func287,⟨fk BP Tryz.func286,⟨⟩,⟨⟩⟩,⟨⟩⟩⟩,⟨fk aHH Tryz.func294,⟨fk aF3 Tryz.func293,⟨fk XR Tryz.func292,⟨⟩,⟨⟩⟩,⟨⟩⟩,⟨fk aAB Tryz.func295,⟨⟩,⟨⟩⟩⟩⟩,⟨fk aQd Tryz.func303,⟨fk aIQ Tryz.func299,⟨fk aEa Tryz.func298,⟨fk aGO Tryz.func297,⟨⟩,⟨⟩⟩,⟨⟩⟩,⟨fk aEi Tryz.func302,⟨fk aDU Tryz.func300,⟨⟩,⟨⟩⟩,⟨⟩⟩⟩,⟨fk aD0 Tryz.func306,⟨fk aC0 Tryz.func305,⟨fk aHX Tryz.func304,⟨⟩,⟨⟩⟩,⟨⟩⟩,⟨fk aEo Tryz.func307,⟨⟩,⟨⟩⟩⟩⟩⟩⟩⟩,⟨fk aLN Tryz.func354,⟨fk aGk Tryz.func331,⟨fk aCA Tryz.func320,⟨fk aFs Tryz.func314,⟨fk aDg Tryz.func311,⟨fk aGz Tryz.func310,⟨fk aFU Tryz.func309,⟨⟩,⟨⟩⟩,⟨⟩⟩,⟨fk aEF Tryz.func313,⟨fk aFH Tryz.func312,⟨⟩,⟨⟩⟩,⟨⟩⟩⟩,⟨fk aGI Tryz.func317,⟨fk aGM Tryz.func316,⟨fk aH7 Tryz.func315,⟨⟩,⟨⟩⟩,⟨⟩⟩,⟨fk aFY Tryz.func319,⟨fk aHi Tryz.func318,⟨⟩,⟨⟩⟩,⟨⟩⟩⟩⟩,⟨fk aRF Tryz.func326,⟨fk aBB Tryz.func323,⟨fk aFB Tryz.func322,⟨fk aHU Tryz.func321,⟨⟩,⟨⟩⟩,⟨⟩⟩,⟨fk aRR Tryz.func325,⟨fk aHI Tryz.func324,⟨⟩,⟨⟩⟩,⟨⟩⟩⟩,⟨fk aMR Tryz.func329,⟨fk aOC Tryz.func328,⟨fk aIc Tryz.func327,⟨⟩,⟨⟩⟩,⟨⟩⟩,⟨fk aA5 Tryz.func330,⟨⟩,⟨⟩⟩⟩⟩⟩,⟨fk aDV Tryz.func343,⟨fk aHY Tryz.func337,⟨fk aIh Tryz.func334,⟨fk aFw Tryz.func333,⟨fk aLC Tryz.func332,⟨⟩,⟨⟩⟩,⟨⟩⟩,⟨fk aEp Tryz.func336,⟨fk aB5 Tryz.func335,⟨⟩,⟨⟩⟩,⟨⟩⟩⟩,⟨fk aEO Tryz.func340,⟨fk aCC Tryz.func339,⟨fk aER Tryz.func338,⟨⟩,⟨⟩⟩,⟨⟩⟩,⟨fk aDX Tryz.func342,⟨fk aIa Tryz.func341,⟨⟩,⟨⟩⟩,⟨⟩⟩⟩⟩,⟨fk aMa Tryz.func349,⟨fk aC7 Tryz.func346,⟨fk aCo Tryz.func345,⟨fk aCm Tryz.func344,⟨⟩,⟨⟩⟩,⟨⟩⟩,⟨fk aEG Tryz.func348,⟨fk aPf Tryz.func347,⟨⟩,⟨⟩⟩,⟨⟩⟩⟩,⟨fk aDo Tryz.func352,⟨fk aFA Tryz.func351,⟨fk aRE Tryz.func350,⟨⟩,⟨⟩⟩,⟨⟩⟩,⟨fk aA8 Tryz.func353,⟨⟩,⟨⟩⟩⟩⟩⟩⟩,⟨fk ZO Tryz.func377,⟨fk aDE Tryz.func366,⟨fk aGs Tryz.func360,⟨fk aHC Tryz.func357,⟨fk aH4 Tryz.func356,⟨fk aHB Tryz.func355,⟨⟩,⟨⟩⟩,⟨⟩⟩,⟨fk aCW Tryz.func359,⟨fk aDc Tryz.func358,⟨⟩,⟨⟩⟩,⟨⟩⟩⟩,⟨fk aFE Tryz.func363,⟨fk aEL Tryz.func362,⟨fk aFm Tryz.func361,⟨⟩,⟨⟩⟩,⟨⟩⟩,⟨fk aG8 Tryz.func365,⟨fk aGt Tryz.func364,⟨⟩,⟨⟩⟩,⟨⟩⟩⟩⟩,⟨fk aGx Tryz.func372,⟨fk XX Tryz.func369,⟨fk aEj Tryz.func368,⟨fk aE9 Tryz.func367,⟨⟩,⟨⟩⟩,⟨⟩⟩,⟨fk aDx Tryz.func371,⟨fk aDR Tryz.func370,⟨⟩,⟨⟩⟩,⟨⟩⟩⟩,⟨fk Z8 Tryz.func375,⟨fk aQI Tryz.func374,⟨fk aDS Tryz.func373,⟨⟩,⟨⟩⟩,⟨⟩⟩,⟨fk aAZ Tryz.func376,⟨⟩,⟨⟩⟩⟩⟩⟩,⟨fk UQ Tryz.func388,⟨fk aFv Tryz.func383,⟨fk aG3 Tryz.func380,⟨fk aMm Tryz.func379,⟨fk SX Tryz.func378,⟨⟩,⟨⟩⟩,⟨⟩⟩,⟨fk aFT Tryz.func382,⟨fk aIu Tryz.func381,⟨⟩,⟨⟩⟩,⟨⟩⟩⟩,⟨fk aPe Tryz.func386,⟨fk aHP Tryz.func385,⟨fk aHr Tryz.func384,⟨⟩,⟨⟩⟩,⟨⟩⟩,⟨fk aSq Tryz.func387,⟨⟩,⟨⟩⟩⟩⟩,⟨fk aIt Tryz.func394,⟨fk aFo Tryz.func391,⟨fk aGU Tryz.func390,⟨fk aI3 Tryz.func389,⟨⟩,⟨⟩⟩,⟨⟩⟩,⟨fk aCM Tryz.func393,⟨fk U2 Tryz.func392,⟨⟩,⟨⟩⟩,⟨⟩⟩⟩,⟨fk YX Tryz.func397,⟨fk aH6 Tryz.func396,⟨fk aCz Tryz.func395,⟨⟩,⟨⟩⟩,⟨⟩⟩,⟨fk ZG Tryz.func398,⟨⟩,⟨⟩⟩⟩⟩⟩⟩⟩⟩⟩ WL (aBZ)
theorem LT:Cz.B 104=some KI.fn:=by rfl
theorem JJ:Cz.B 106=some LI.fn:=by rfl
theorem aJN:Cz.T 65=some GM.t:=by rfl
theorem aVX:Cz.T 77=some FJ.t:=by rfl
theorem aBE:Cz.T 118=some vH.t:=by rfl
theorem aOH:Cz.T 226=some u4.t:=by rfl
def q9(f:FuncId):Bool:=Nat.beq f 104||Nat.beq f 106
def vD(f:FuncId)(zs:List A):Option A:=bif q9 f then(match zs with|[.sl 0 []]=>some (.sl 0 [])|_=>none)else VZ f zs
theorem KJ(f:FuncId)(hf:q9 f=true)(c:Nat):EvQ Cz f [.v (.slice none 0 c)] (.sl 0 []):=by simp only[q9,Bool.or_eq_true]at hf;rcases hf with h|h;{obtain rfl:=Nat.eq_of_beq_eq_true h;refine evF LT ?_;simp(disch:=omega)only[go_sem,simprocAttr,aBE,vH,sE,uR,KI]};{obtain rfl:=Nat.eq_of_beq_eq_true h;refine evF JJ ?_;simp(disch:=omega)only[go_sem,simprocAttr,aJN,GM,sE,uR,LI]}
theorem LW(f:FuncId)(hf:q9 f=true)(a:Addr)(c:Nat):EvQ Cz f [.v (.slice (some a) 0 c)] (.sl 0 []):=by simp only[q9,Bool.or_eq_true]at hf;rcases hf with h|h;{obtain rfl:=Nat.eq_of_beq_eq_true h;refine evF LT ?_;simp(disch:=omega)only[go_sem,simprocAttr,aBE,vH,aOH,u4,sE,uR,KI]};{obtain rfl:=Nat.eq_of_beq_eq_true h;refine evF JJ ?_;simp(disch:=omega)only[go_sem,simprocAttr,aJN,GM,aVX,FJ,sE,uR,LI]}
theorem aAR:QOk Cz.T Tryz.prog vD:=by intro f zs r h;unfold vD at h;cases hb:q9 f with|false=>rw[hb,cond_false]at h;exact BK.ext f zs r h|true=>rw[hb,cond_true]at h;split at h;{simp only[Option.some.injEq]at h;subst h;(have hent:uE Tryz.prog f:=by simp only[q9,Bool.or_eq_true]at hb;rcases hb with h|h;{obtain rfl:=Nat.eq_of_beq_eq_true h;exact BK.enters LT};{obtain rfl:=Nat.eq_of_beq_eq_true h;exact BK.enters JJ});refine .inr ⟨hent,fun own w ys ho hgl hr=>?_⟩;(obtain⟨y,ys',rfl,hy,hn⟩:∃y ys',ys=y::ys'/\R [] own w (.sl 0 []) y/\RL [] own w [] ys':=by rw[RL]at hr;obtain⟨y,ys',e,h1,h2⟩:=hr;exact⟨y,ys',e,h1,h2⟩);(have key:∀a c,y=.slice a 0 c->EvQ Cz f [.v (.slice a 0 c)] (.sl 0 []):=fun a c _=>by cases a with|none=>exact KJ f hb c|some a=>exact LW f hb a c);(have fin:∀a c,y=.slice a 0 c->Go.Calls Tryz.prog f (y::ys').toArray w fun e w'=>∃v,e=.returned v/\Grow w w'/\R [] own w' (.sl 0 []) v:=fun a c e=>by subst e;obtain⟨N,hN⟩:=key a c rfl;rcases(iU BK N).1 f _ _ hN with h|⟨-,h⟩;{obtain⟨v,h1,-⟩:=h [] own w _ (RL.cons (by rw[R]) hn);rw[hent]at h1;simp at h1};{exact h own w _ ho hgl (RL.cons (by rw[R]) hn)});rw[R]at hy;rcases hy with⟨-,-,a,c,rfl⟩|⟨g,off,cap,xs,rfl,h0,-⟩;{exact fin _ _ rfl};{exact fin _ _ rfl}};{cases h}
def Cy:Ctx:=⟨Cz.T,Cz.B,vD,Cz.XO⟩
theorem qE:kN Tryz.prog Cy:=⟨BK.mixed,BK.types,BK.loops,BK.fns,aAR,BK.extO⟩
noncomputable def ZF(f:FuncId):Option (List A->aE->Option (A×aE)):=bif Nat.beq f 301 then some (pO Cy)else PB f
theorem YB:∀f g zs H x H',ZF f=some g->g zs H=some (x,H')->pH Cy.T Tryz.prog f zs H x H':=by intro f g zs H x H' hg h;unfold ZF at hg;cases h1:Nat.beq f 301 with|true=>obtain rfl:=Nat.eq_of_beq_eq_true h1;rw[h1,cond_true]at hg;obtain rfl:=Option.some.inj hg;exact T7 qE h|false=>rw[h1,cond_false]at hg;exact qE.extO f g zs H x H' hg h
noncomputable def Cx:Ctx:=⟨Cy.T,Cy.B,Cy.X,ZF⟩
theorem aBA:kN Tryz.prog Cx:=⟨qE.mixed,qE.types,qE.loops,qE.fns,qE.ext,YB⟩
theorem aM4:Cy.B 249=some aB3.fn:=by rfl
theorem aXz:mI Cy 249=true:=by rfl
theorem aQ6:Cy.B 251=some aDj.fn:=by rfl
theorem aXK:mI Cy 251=true:=by rfl
theorem aX0:Cx.T 1=some th1.t:=by rfl
theorem aXp:Cx.T 3=some th3.t:=by rfl
theorem aX9:Cx.T 4=some th4.t:=by rfl
theorem aW8:Cx.T 5=some th5.t:=by rfl
theorem aXF:Cx.T 9=some th9.t:=by rfl
theorem aVP:Cx.T 20=some aCH.t:=by rfl
theorem aTr:Cx.T 22=some aCv.t:=by rfl
theorem aUW:Cx.T 23=some aGr.t:=by rfl
theorem aUF:Cx.T 24=some aH5.t:=by rfl
theorem aTD:Cx.T 25=some aGZ.t:=by rfl
theorem aT1:Cx.T 27=some aFp.t:=by rfl
theorem aUa:Cx.T 29=some aGB.t:=by rfl
theorem aWK:Cx.T 31=some aET.t:=by rfl
theorem aWL:Cx.T 33=some aIj.t:=by rfl
theorem aUo:Cx.T 34=some aCl.t:=by rfl
theorem aVW:Cx.T 36=some aHj.t:=by rfl
theorem aWn:Cx.T 37=some aF2:=by rfl
theorem aTi:Cx.T 38=some aHf:=by rfl
theorem aVu:Cx.T 39=some aFh.t:=by rfl
theorem aT0:Cx.T 40=some aG5:=by rfl
theorem aTN:Cx.T 42=some aCE:=by rfl
theorem aWs:Cx.T 44=some aIY:=by rfl
theorem aUf:Cx.T 45=some aDY.t:=by rfl
theorem aUj:Cx.T 46=some aF4.t:=by rfl
theorem aSv:Cx.T 48=some aIE.t:=by rfl
theorem aSR:Cx.T 49=some aF5.t:=by rfl
theorem aVZ:Cx.T 51=some aGd.t:=by rfl
theorem aSY:Cx.T 54=some aAK.t:=by rfl
theorem aSL:Cx.T 55=some aBT.t:=by rfl
theorem aU0:Cx.T 56=some aDN.t:=by rfl
theorem aSF:Cx.T 57=some aFk.t:=by rfl
theorem aWz:Cx.T 59=some aIb.t:=by rfl
theorem aST:Cx.T 60=some aHA.t:=by rfl
theorem aWr:Cx.T 61=some aFn.t:=by rfl
theorem aSE:Cx.T 63=some UW.t:=by rfl
theorem aV6:Cx.T 64=some aC2:=by rfl
theorem aTL:Cx.T 65=some GM.t:=by rfl
theorem aT3:Cx.T 67=some aCx.t:=by rfl
theorem aVd:Cx.T 73=some aHJ.t:=by rfl
theorem aTC:Cx.T 77=some FJ.t:=by rfl
theorem aWg:Cx.T 79=some aDz.t:=by rfl
theorem aWw:Cx.T 83=some aI6.t:=by rfl
theorem aU5:Cx.T 88=some aDF.t:=by rfl
theorem aW5:Cx.T 95=some aDn.t:=by rfl
theorem aWl:Cx.T 97=some aDO.t:=by rfl
theorem aWD:Cx.T 99=some aCQ.t:=by rfl
theorem aQ0:Cx.T 102=some M0.t:=by rfl
theorem aKA:Cx.T 106=some N9.t:=by rfl
theorem aLt:Cx.T 108=some O4.t:=by rfl
theorem aM2:Cx.T 110=some RO.t:=by rfl
theorem aPT:Cx.T 111=some NN.t:=by rfl
theorem aNO:Cx.T 113=some RN.t:=by rfl
theorem aPN:Cx.T 116=some NW.t:=by rfl
theorem aNz:Cx.T 117=some OL.t:=by rfl
theorem aOK:Cx.T 118=some vH.t:=by rfl
theorem aQo:Cx.T 120=some A3.t:=by rfl
theorem aMk:Cx.T 122=some QS.t:=by rfl
theorem aRo:Cx.T 124=some A6.t:=by rfl
theorem aR7:Cx.T 125=some AD:=by rfl
theorem aOn:Cx.T 126=some MI:=by rfl
theorem aKP:Cx.T 128=some AX.t:=by rfl
theorem aRZ:Cx.T 129=some P7.t:=by rfl
theorem aMF:Cx.T 131=some M9.t:=by rfl
theorem aNw:Cx.T 133=some A8:=by rfl
theorem aPP:Cx.T 139=some PL.t:=by rfl
theorem aMj:Cx.T 145=some NH.t:=by rfl
theorem aQQ:Cx.T 146=some RH.t:=by rfl
theorem aOW:Cx.T 148=some PH.t:=by rfl
theorem aM5:Cx.T 149=some SD.t:=by rfl
theorem aLe:Cx.T 153=some MP.t:=by rfl
theorem aPz:Cx.T 155=some N3.t:=by rfl
theorem aQD:Cx.T 159=some P6.t:=by rfl
theorem aNP:Cx.T 162=some R9.t:=by rfl
theorem aQW:Cx.T 163=some OH.t:=by rfl
theorem aMz:Cx.T 164=some Q6.t:=by rfl
theorem aN2:Cx.T 165=some MQ.t:=by rfl
theorem aLu:Cx.T 166=some PQ.t:=by rfl
theorem aOq:Cx.T 186=some Q8.t:=by rfl
theorem aPV:Cx.T 196=some QR.t:=by rfl
theorem aPQ:Cx.T 205=some NL.t:=by rfl
theorem aMM:Cx.T 212=some OY.t:=by rfl
theorem aM9:Cx.T 213=some GY.t:=by rfl
theorem aKG:Cx.T 215=some M7.t:=by rfl
theorem aOv:Cx.T 226=some u4.t:=by rfl
theorem aQ4:Cx.T 235=some OI.t:=by rfl
theorem aQe:Cx.T 237=some PA.t:=by rfl
theorem aOA:Cx.T 239=some M6.t:=by rfl
theorem aLo:Cx.T 241=some NK.t:=by rfl
theorem aPa:Cx.T 242=some QZ.t:=by rfl
theorem aN9:Cx.T 244=some ND.t:=by rfl
theorem aLy:Cx.T 245=some ML.t:=by rfl
theorem aNa:Cx.T 247=some HQ.t:=by rfl
theorem aQw:Cx.T 248=some NZ.t:=by rfl
theorem aMI:Cx.T 249=some PG.t:=by rfl
theorem aRk:Cx.T 252=some NA.t:=by rfl
theorem aRb:Cx.T 254=some OT.t:=by rfl
theorem aKQ:Cx.T 257=some PP.t:=by rfl
theorem aPq:Cx.T 264=some QF.t:=by rfl
theorem aNn:Cx.T 273=some Q9.t:=by rfl
theorem aSh:Cx.T 275=some OO.t:=by rfl
theorem aM3:Cx.T 277=some NV.t:=by rfl
theorem aMs:Cx.T 278=some N8.t:=by rfl
theorem aK6:Cx.T 283=some RF.t:=by rfl
theorem aPM:Cx.T 285=some PU.t:=by rfl
theorem aNI:Cx.T 287=some QE.t:=by rfl
theorem aOT:Cx.T 314=some OM.t:=by rfl
theorem aOs:Cx.T 315=some OU.t:=by rfl
theorem aMW:Cx.T 316=some OJ.t:=by rfl
theorem aMo:Cx.T 318=some MT.t:=by rfl
theorem aQv:Cx.T 320=some RM.t:=by rfl
theorem aNm:Cx.T 321=some PC.t:=by rfl
theorem aPE:Cx.T 336=some OG.t:=by rfl
theorem aN8:Cx.T 337=some NC.t:=by rfl
theorem aOV:Cx.T 340=some SC.t:=by rfl
theorem aPW:Cx.T 342=some NE.t:=by rfl
theorem aOZ:Cx.T 344=some RK.t:=by rfl
theorem aPw:Cx.T 345=some MS.t:=by rfl
theorem aK4:Cx.T 348=some HT.t:=by rfl
theorem aRx:Cx.T 349=some MH.t:=by rfl
theorem aMe:Cx.T 351=some OC.t:=by rfl
theorem aRy:Cx.T 352=some RP.t:=by rfl
theorem aP6:Cx.T 353=some QM.t:=by rfl
theorem aKw:Cx.T 355=some H4.t:=by rfl
theorem aNL:Cx.T 356=some MY.t:=by rfl
theorem aNc:Cx.T 357=some PF.t:=by rfl
theorem aKB:Cx.T 364=some QW.t:=by rfl
theorem aLU:Cx.T 365=some OP.t:=by rfl
theorem aNV:Cx.T 371=some O6.t:=by rfl
theorem aO4:Cx.T 374=some OW.t:=by rfl
theorem aOt:Cx.T 375=some RC.t:=by rfl
theorem aRA:Cx.T 376=some QB.t:=by rfl
theorem aM7:Cx.T 377=some PT.t:=by rfl
theorem aMQ:Cx.T 388=some RU.t:=by rfl
theorem aRi:Cx.T 391=some NQ.t:=by rfl
theorem aRO:Cx.T 397=some Q0.t:=by rfl
theorem aRB:Cx.T 403=some Q1.t:=by rfl
theorem aPZ:Cx.T 405=some OV.t:=by rfl
theorem aON:Cx.T 412=some N6.t:=by rfl
theorem aQg:Cx.T 424=some O0.t:=by rfl
theorem aQk:Cx.T 427=some MK.t:=by rfl
theorem aQK:Cx.T 429=some R4.t:=by rfl
theorem aNs:Cx.T 431=some PJ.t:=by rfl
theorem aMV:Cx.T 432=some M8.t:=by rfl
theorem aR9:Cx.T 435=some RW.t:=by rfl
theorem aOS:Cx.T 436=some O5.t:=by rfl
theorem aRc:Cx.T 438=some PX.t:=by rfl
theorem aPj:Cx.T 440=some SA.t:=by rfl
theorem aKD:Cx.T 442=some OE.t:=by rfl
theorem aOu:Cx.T 449=some NO.t:=by rfl
theorem aNk:Cx.T 450=some QP.t:=by rfl
theorem aRC:Cx.T 453=some M4.t:=by rfl
theorem aLV:Cx.T 454=some NS.t:=by rfl
theorem aPA:Cx.T 455=some QT.t:=by rfl
theorem aMc:Cx.T 460=some N7.t:=by rfl
theorem aQT:Cx.T 462=some OD.t:=by rfl
theorem aKU:Cx.T 467=some PO.t:=by rfl
theorem aLc:Cx.T 471=some QY.t:=by rfl
theorem aR0:Cx.T 479=some RA:=by rfl
theorem aOB:Cx.T 480=some N5.t:=by rfl
theorem aRX:Cx.T 485=some R3.t:=by rfl
theorem aRJ:Cx.T 491=some MW.t:=by rfl
theorem aRg:Cx.T 493=some O1.t:=by rfl
theorem aNl:Cx.T 496=some QQ.t:=by rfl
theorem aQE:Cx.T 500=some RJ.t:=by rfl
abbrev XB(f:FuncId)(m:MFn):Prop:=Cx.B f=some m
theorem aSx:XB 6 g6.fn:=by rfl
theorem aXg:XB 8 g8.fn:=by rfl
theorem aKl:XB 10 g10.fn:=by rfl
theorem aJu:XB 11 g11.fn:=by rfl
theorem aSM:XB 14 g14.fn:=by rfl
theorem aJi:XB 17 g17.fn:=by rfl
theorem aV8:XB 18 g18.fn:=by rfl
theorem aKq:XB 20 g20.fn:=by rfl
theorem aV5:XB 21 g21.fn:=by rfl
theorem aUn:XB 24 g24.fn:=by rfl
theorem aWb:XB 28 g28.fn:=by rfl
theorem aKp:XB 30 g30.fn:=by rfl
theorem aTz:XB 32 g32.fn:=by rfl
theorem aS2:XB 34 g34.fn:=by rfl
theorem aVz:XB 35 g35.fn:=by rfl
theorem aWf:XB 36 g36.fn:=by rfl
theorem aU6:XB 37 g37.fn:=by rfl
theorem aUB:XB 38 g38.fn:=by rfl
theorem aWN:XB 39 g39.fn:=by rfl
theorem aWF:XB 40 g40.fn:=by rfl
theorem aS4:XB 41 g41.fn:=by rfl
theorem aS6:XB 42 g42.fn:=by rfl
theorem aTP:XB 43 g43.fn:=by rfl
theorem z9:XB 44 g44.fn:=by rfl
theorem aJZ:XB 50 g50.fn:=by rfl
theorem aTs:XB 51 g51.fn:=by rfl
theorem aWM:XB 53 g53.fn:=by rfl
theorem aWC:XB 54 g54.fn:=by rfl
theorem aKh:XB 55 g55.fn:=by rfl
theorem aS3:XB 56 g56.fn:=by rfl
theorem aW1:XB 60 g60.fn:=by rfl
theorem aU9:XB 67 g67.fn:=by rfl
theorem aVS:XB 69 g69.fn:=by rfl
theorem aSz:XB 70 g70.fn:=by rfl
theorem aUi:XB 71 g71.fn:=by rfl
theorem aSH:XB 72 g72.fn:=by rfl
theorem aI8:XB 73 g73.fn:=by rfl
theorem aSG:XB 74 g74.fn:=by rfl
theorem aTY:XB 75 g75.fn:=by rfl
theorem aV2:XB 76 g76.fn:=by rfl
theorem aTG:XB 77 g77.fn:=by rfl
theorem aWT:XB 78 g78.fn:=by rfl
theorem aWG:XB 79 g79.fn:=by rfl
theorem aT9:XB 80 g80.fn:=by rfl
theorem aWJ:XB 81 g81.fn:=by rfl
theorem aJb:XB 82 g82.fn:=by rfl
theorem aTJ:XB 83 g83.fn:=by rfl
theorem aW3:XB 84 g84.fn:=by rfl
theorem FY:XB 85 g85.fn:=by rfl
theorem aW6:XB 86 g86.fn:=by rfl
theorem aWc:XB 87 g87.fn:=by rfl
theorem aI9:XB 88 g88.fn:=by rfl
theorem aVl:XB 89 g89.fn:=by rfl
theorem aTO:XB 97 g97.fn:=by rfl
theorem aKi:XB 98 g98.fn:=by rfl
theorem aUK:XB 99 g99.fn:=by rfl
theorem aKs:XB 102 aGL.fn:=by rfl
theorem aMX:XB 103 aFr.fn:=by rfl
theorem aMd:XB 104 KI.fn:=by rfl
theorem aQP:XB 105 aDa.fn:=by rfl
theorem aLv:XB 106 LI.fn:=by rfl
theorem qV:XB 107 aFJ.fn:=by rfl
theorem aBg:XB 108 aEk.fn:=by rfl
theorem WF:XB 109 aDt.fn:=by rfl
theorem aKJ:XB 110 aED.fn:=by rfl
theorem aN3:XB 111 aG9.fn:=by rfl
theorem aSb:XB 112 aAi.fn:=by rfl
theorem aOc:XB 113 aFi.fn:=by rfl
theorem aNR:XB 114 aCL.fn:=by rfl
theorem aLL:XB 115 aEJ.fn:=by rfl
theorem aMy:XB 116 aHg.fn:=by rfl
theorem aL1:XB 117 aEC.fn:=by rfl
theorem aQq:XB 118 aEV.fn:=by rfl
theorem aMp:XB 119 aCO.fn:=by rfl
theorem aLz:XB 120 aHs.fn:=by rfl
theorem aKt:XB 121 aIV.fn:=by rfl
theorem aOQ:XB 122 ZS.fn:=by rfl
theorem Z6:XB 123 aIg.fn:=by rfl
theorem aAj:XB 124 aEX.fn:=by rfl
theorem aQ1:XB 125 aGY.fn:=by rfl
theorem aP5:XB 126 aIe.fn:=by rfl
theorem aN7:XB 145 XY.fn:=by rfl
theorem aOf:XB 146 aGm.fn:=by rfl
theorem aLI:XB 147 Z1.fn:=by rfl
theorem aPB:XB 148 aD9.fn:=by rfl
theorem aNX:XB 149 aIl.fn:=by rfl
theorem B6:XB 150 aH2.fn:=by rfl
theorem aMx:XB 151 aDy.fn:=by rfl
theorem aPi:XB 152 aC5.fn:=by rfl
theorem aNx:XB 153 aHE.fn:=by rfl
theorem aLh:XB 154 aFO.fn:=by rfl
theorem aNf:XB 155 aE1.fn:=by rfl
theorem aBi:XB 156 aIr.fn:=by rfl
theorem aMG:XB 157 aFG.fn:=by rfl
theorem aKH:XB 158 aEY.fn:=by rfl
theorem aLH:XB 159 aHL.fn:=by rfl
theorem aOg:XB 160 KH.fn:=by rfl
theorem Y6:XB 161 aIo.fn:=by rfl
theorem aQX:XB 162 aFF.fn:=by rfl
theorem aO7:XB 163 V2.fn:=by rfl
theorem aRG:XB 164 aHF.fn:=by rfl
theorem aRV:XB 165 aGC.fn:=by rfl
theorem aNS:XB 166 aGc.fn:=by rfl
theorem aOY:XB 167 aC1.fn:=by rfl
theorem aOj:XB 168 aCJ.fn:=by rfl
theorem aRW:XB 169 aDH.fn:=by rfl
theorem aR8:XB 170 aC9.fn:=by rfl
theorem aQY:XB 171 aHQ.fn:=by rfl
theorem aOl:XB 172 aEE.fn:=by rfl
theorem aNe:XB 173 aIn.fn:=by rfl
theorem aA2:XB 174 aAM.fn:=by rfl
theorem aLE:XB 183 aII.fn:=by rfl
theorem aOb:XB 189 aCn.fn:=by rfl
theorem aPr:XB 190 aHD.fn:=by rfl
theorem aQO:XB 191 aBh.fn:=by rfl
theorem aNd:XB 195 aIB.fn:=by rfl
theorem aPJ:XB 198 aDe.fn:=by rfl
theorem pD:XB 199 aDB.fn:=by rfl
theorem WQ:XB 200 L1.fn:=by rfl
theorem aSc:XB 201 aFc.fn:=by rfl
theorem aP7:XB 202 aES.fn:=by rfl
theorem aKK:XB 203 aEg.fn:=by rfl
theorem aRn:XB 204 aDG.fn:=by rfl
theorem aRN:XB 205 aD6.fn:=by rfl
theorem aSf:XB 206 aI5.fn:=by rfl
theorem aMv:XB 207 aDQ.fn:=by rfl
theorem aQu:XB 208 aHm.fn:=by rfl
theorem aMT:XB 209 aCN.fn:=by rfl
theorem aSl:XB 210 aC3.fn:=by rfl
theorem aKN:XB 211 aF6.fn:=by rfl
theorem XZ:XB 219 W4.fn:=by rfl
theorem aO2:XB 220 aDm.fn:=by rfl
theorem aKO:XB 221 aEb.fn:=by rfl
theorem aQf:XB 222 aID.fn:=by rfl
theorem aNt:XB 223 aAQ.fn:=by rfl
theorem aQ7:XB 224 aE3.fn:=by rfl
theorem aQH:XB 225 aGJ.fn:=by rfl
theorem aQJ:XB 226 aDZ.fn:=by rfl
theorem aNM:XB 227 aGo.fn:=by rfl
theorem aLB:XB 228 UM.fn:=by rfl
theorem aLf:XB 229 aGe.fn:=by rfl
theorem aL4:XB 230 aGu.fn:=by rfl
theorem aOd:XB 231 aEm.fn:=by rfl
theorem aQ9:XB 232 G9.fn:=by rfl
theorem eY:XB 236 aGW.fn:=by rfl
theorem YT:XB 237 aCK.fn:=by rfl
theorem aBy:XB 238 aDi.fn:=by rfl
theorem aQc:XB 239 aIR.fn:=by rfl
theorem aRm:XB 240 aFz.fn:=by rfl
theorem IL:XB 241 aHK.fn:=by rfl
theorem jG:XB 242 aI2.fn:=by rfl
theorem aLQ:XB 243 aFC.fn:=by rfl
theorem aSg:XB 244 aGD.fn:=by rfl
theorem aP9:XB 245 aHW.fn:=by rfl
theorem aM6:XB 246 aIW.fn:=by rfl
theorem aKF:XB 247 aEd.fn:=by rfl
theorem aNh:XB 248 aGP.fn:=by rfl
theorem aKM:XB 249 aB3.fn:=by rfl
theorem aL8:XB 250 aHb.fn:=by rfl
theorem aLm:XB 252 SQ.fn:=by rfl
theorem aMr:XB 253 aBk.fn:=by rfl
theorem tO:XB 254 aCV.fn:=by rfl
theorem aQy:XB 255 ZX.fn:=by rfl
theorem oO:XB 256 aGw.fn:=by rfl
theorem y3:XB 257 aDd.fn:=by rfl
theorem aRp:XB 258 aG7.fn:=by rfl
theorem aOm:XB 259 aGf.fn:=by rfl
theorem aPl:XB 260 aFQ.fn:=by rfl
theorem aLG:XB 261 aFR.fn:=by rfl
theorem aMi:XB 262 aIz.fn:=by rfl
theorem aQC:XB 263 aCi.fn:=by rfl
theorem aMl:XB 264 ZI.fn:=by rfl
theorem aPu:XB 265 aFe.fn:=by rfl
theorem aMJ:XB 266 aHM.fn:=by rfl
theorem aNY:XB 267 aGR.fn:=by rfl
theorem aPc:XB 270 aEz.fn:=by rfl
theorem aO9:XB 271 aF0.fn:=by rfl
theorem ZD:XB 279 SF.fn:=by rfl
theorem aRs:XB 280 aEv.fn:=by rfl
theorem aKS:XB 284 aHp.fn:=by rfl
theorem KO:XB 285 UO.fn:=by rfl
theorem aQm:XB 286 BP.fn:=by rfl
theorem aRz:XB 291 VV.fn:=by rfl
theorem aPF:XB 292 XR.fn:=by rfl
theorem aLx:XB 293 aF3.fn:=by rfl
theorem aK9:XB 294 aHH.fn:=by rfl
theorem KT:XB 295 aAB.fn:=by rfl
theorem uD:XB 297 aGO.fn:=by rfl
theorem aM0:XB 298 aEa.fn:=by rfl
theorem aP0:XB 299 aIQ.fn:=by rfl
theorem LM:XB 300 aDU.fn:=by rfl
theorem aLO:XB 302 aEi.fn:=by rfl
theorem aO5:XB 304 aHX.fn:=by rfl
theorem wO:XB 305 aC0.fn:=by rfl
theorem aNq:XB 306 aD0.fn:=by rfl
theorem aOL:XB 307 aEo.fn:=by rfl
theorem aRa:XB 308 aGG.fn:=by rfl
theorem aPh:XB 309 aFU.fn:=by rfl
theorem aOy:XB 310 aGz.fn:=by rfl
theorem aMS:XB 311 aDg.fn:=by rfl
theorem aKZ:XB 312 aFH.fn:=by rfl
theorem aLP:XB 313 aEF.fn:=by rfl
theorem aNp:XB 314 aFs.fn:=by rfl
theorem aMP:XB 315 aH7.fn:=by rfl
theorem aQ8:XB 316 aGM.fn:=by rfl
theorem aLj:XB 317 aGI.fn:=by rfl
theorem aRu:XB 318 aHi.fn:=by rfl
theorem aLi:XB 319 aFY.fn:=by rfl
theorem aOr:XB 320 aCA.fn:=by rfl
theorem aPk:XB 321 aHU.fn:=by rfl
theorem aQx:XB 322 aFB.fn:=by rfl
theorem aKW:XB 323 aBB.fn:=by rfl
theorem aOO:XB 324 aHI.fn:=by rfl
theorem JV:XB 327 aIc.fn:=by rfl
theorem aP4:XB 330 aA5.fn:=by rfl
theorem aOP:XB 331 aGk.fn:=by rfl
theorem aLY:XB 333 aFw.fn:=by rfl
theorem aN6:XB 334 aIh.fn:=by rfl
theorem aMA:XB 335 aB5.fn:=by rfl
theorem aPR:XB 336 aEp.fn:=by rfl
theorem aKY:XB 337 aHY.fn:=by rfl
theorem aPn:XB 338 aER.fn:=by rfl
theorem aLD:XB 339 aCC.fn:=by rfl
theorem aL3:XB 340 aEO.fn:=by rfl
theorem V7:XB 341 aIa.fn:=by rfl
theorem aPx:XB 342 aDX.fn:=by rfl
theorem aQZ:XB 343 aDV.fn:=by rfl
theorem aLs:XB 344 aCm.fn:=by rfl
theorem aPU:XB 345 aCo.fn:=by rfl
theorem aOk:XB 346 aC7.fn:=by rfl
theorem aSa:XB 348 aEG.fn:=by rfl
theorem aO0:XB 351 aFA.fn:=by rfl
theorem aQV:XB 352 aDo.fn:=by rfl
theorem J4:XB 353 aA8.fn:=by rfl
theorem xS:XB 355 aHB.fn:=by rfl
theorem aQs:XB 356 aH4.fn:=by rfl
theorem aOI:XB 357 aHC.fn:=by rfl
theorem aQl:XB 358 aDc.fn:=by rfl
theorem aRM:XB 359 aCW.fn:=by rfl
theorem aRv:XB 360 aGs.fn:=by rfl
theorem aRq:XB 361 aFm.fn:=by rfl
theorem aMq:XB 362 aEL.fn:=by rfl
theorem aSd:XB 363 aFE.fn:=by rfl
theorem aSj:XB 364 aGt.fn:=by rfl
theorem aQh:XB 365 aG8.fn:=by rfl
theorem aMK:XB 366 aDE.fn:=by rfl
theorem aNZ:XB 367 aE9.fn:=by rfl
theorem aRP:XB 368 aEj.fn:=by rfl
theorem aOa:XB 369 XX.fn:=by rfl
theorem aMH:XB 370 aDR.fn:=by rfl
theorem Y0:XB 371 aDx.fn:=by rfl
theorem aOi:XB 372 aGx.fn:=by rfl
theorem aLW:XB 373 aDS.fn:=by rfl
theorem aNG:XB 375 Z8.fn:=by rfl
theorem aPH:XB 376 aAZ.fn:=by rfl
theorem aLX:XB 377 ZO.fn:=by rfl
theorem aQ5:XB 378 SX.fn:=by rfl
theorem aAd:XB 380 aG3.fn:=by rfl
theorem xZ:XB 381 aIu.fn:=by rfl
theorem aMU:XB 382 aFT.fn:=by rfl
theorem aPI:XB 383 aFv.fn:=by rfl
theorem aKX:XB 384 aHr.fn:=by rfl
theorem aOF:XB 385 aHP.fn:=by rfl
theorem aQR:XB 388 UQ.fn:=by rfl
theorem aLk:XB 389 aI3.fn:=by rfl
theorem aQ2:XB 390 aGU.fn:=by rfl
theorem aBQ:XB 391 aFo.fn:=by rfl
theorem aPt:XB 392 U2.fn:=by rfl
theorem aRI:XB 393 aCM.fn:=by rfl
theorem aN1:XB 394 aIt.fn:=by rfl
theorem aNF:XB 395 aCz.fn:=by rfl
theorem aO3:XB 396 aH6.fn:=by rfl
theorem aSk:XB 397 YX.fn:=by rfl
theorem aPd:XB 398 ZG.fn:=by rfl
theorem aXN:Cx.T.gl.tab 3=some ([.int .u8 0,.int .u8 1,.int .u8 56,.int .u8 2,.int .u8 57,.int .u8 49,.int .u8 28,.int .u8 3,.int .u8 61,.int .u8 58,.int .u8 42,.int .u8 50,.int .u8 38,.int .u8 29,.int .u8 17,.int .u8 4,.int .u8 62,.int .u8 47,.int .u8 59,.int .u8 36,.int .u8 45,.int .u8 43,.int .u8 51,.int .u8 22,.int .u8 53,.int .u8 39,.int .u8 33,.int .u8 30,.int .u8 24,.int .u8 18,.int .u8 12,.int .u8 5,.int .u8 63,.int .u8 55,.int .u8 48,.int .u8 27,.int .u8 60,.int .u8 41,.int .u8 37,.int .u8 16,.int .u8 46,.int .u8 35,.int .u8 44,.int .u8 21,.int .u8 52,.int .u8 32,.int .u8 23,.int .u8 11,.int .u8 54,.int .u8 26,.int .u8 40,.int .u8 15,.int .u8 34,.int .u8 20,.int .u8 31,.int .u8 10,.int .u8 25,.int .u8 14,.int .u8 19,.int .u8 9,.int .u8 13,.int .u8 8,.int .u8 7,.int .u8 6]:List Value):=by rfl
theorem aXS:Cx.T.gl.tab 0=some ([.int .i64 4,.int .i64 2,.int .i64 4,.int .i64 4,.int .i64 4]:List Value):=by rfl
theorem aXB:Cx.T.gl.tab 4=some ([.int .u8 0,.int .u8 35,.int .u8 38,.int .u8 29,.int .u8 7,.int .u8 7,.int .u8 15,.int .u8 32,.int .u8 92]:List Value):=by rfl
theorem aXM:Cx.T.gl.tab 1=some ([.int .u8 0,.int .u8 96,.int .u8 96,.int .u8 104,.int .u8 96,.int .u8 104,.int .u8 145,.int .u8 147,.int .u8 145,.int .u8 144,.int .u8 190,.int .u8 146,.int .u8 160]:List Value):=by rfl
theorem aXe:Cx.T.gl.tab 2=some ([.int .u8 0,.int .u8 1,.int .u8 1,.int .u8 1,.int .u8 3,.int .u8 3,.int .u8 2,.int .u8 2,.int .u8 2,.int .u8 2,.int .u8 3,.int .u8 3,.int .u8 3]:List Value):=by rfl
abbrev PS(f:FuncId):Prop:=∀{zs:List A}{dst:Option Nat}{ms:List MOp}{st:Ev.St}{k:List It}{Q:Ex->Ev.St->Prop},kP Cx f zs dst ms st k Q↔HN Cx f (dP st.H zs) (zs.all shut) dst 0 ms st k Q
theorem aXn:PS 10:=aF rfl
theorem aXh:PS 11:=aF rfl
theorem aXR:PS 14:=aF rfl
theorem aXk:PS 21:=aF rfl
theorem aXl:PS 28:=aF rfl
theorem aXU:PS 34:=aF rfl
theorem aXA:PS 37:=aF rfl
theorem aXQ:PS 38:=aF rfl
theorem aXd:PS 39:=aF rfl
theorem aX4:PS 40:=aF rfl
theorem aX5:PS 41:=aF rfl
theorem aXm:PS 50:=aF rfl
theorem aXt:PS 55:=aF rfl
theorem aX1:PS 60:=aF rfl
theorem aXu:PS 71:=aF rfl
theorem aXY:PS 72:=aF rfl
theorem aXI:PS 73:=aF rfl
theorem aXq:PS 74:=aF rfl
theorem aXH:PS 75:=aF rfl
theorem aXC:PS 76:=aF rfl
theorem aYa:PS 77:=aF rfl
theorem aXo:PS 79:=aF rfl
theorem aXP:PS 87:=aF rfl
theorem aXZ:PS 88:=aF rfl
theorem aXx:PS 97:=aF rfl
theorem aXW:PS 98:=aF rfl
theorem aWA:PS 102:=aF rfl
theorem aUV:PS 106:=aF rfl
theorem aSs:PS 108:=aF rfl
theorem aV7:PS 110:=aF rfl
theorem aVQ:PS 111:=aF rfl
theorem aVf:PS 112:=aF rfl
theorem aUZ:PS 113:=aF rfl
theorem aVC:PS 126:=aF rfl
theorem aTe:PS 147:=aF rfl
theorem aVg:PS 149:=aF rfl
theorem aTj:PS 151:=aF rfl
theorem aVw:PS 153:=aF rfl
theorem aTu:PS 154:=aF rfl
theorem aT8:PS 156:=aF rfl
theorem aTV:PS 158:=aF rfl
theorem aUp:PS 159:=aF rfl
theorem aUd:PS 160:=aF rfl
theorem aWa:PS 162:=aF rfl
theorem aUJ:PS 165:=aF rfl
theorem aTg:PS 166:=aF rfl
theorem aTy:PS 167:=aF rfl
theorem aTa:PS 169:=aF rfl
theorem aVG:PS 170:=aF rfl
theorem aVm:PS 174:=aF rfl
theorem aWX:PS 183:=aF rfl
theorem aW4:PS 189:=aF rfl
theorem aVe:PS 191:=aF rfl
theorem aT5:PS 195:=aF rfl
theorem aUe:PS 198:=aF rfl
theorem aTx:PS 202:=aF rfl
theorem aU8:PS 221:=aF rfl
theorem aUA:PS 225:=aF rfl
theorem aUy:PS 228:=aF rfl
theorem aUu:PS 231:=aF rfl
theorem aSy:PS 233:=aF rfl
theorem aWu:PS 234:=aF rfl
theorem aUH:PS 235:=aF rfl
theorem aWt:PS 243:=aF rfl
theorem aUM:PS 246:=aF rfl
theorem aS1:PS 247:=aF rfl
theorem aTX:PS 248:=aF rfl
theorem aTQ:PS 250:=aF rfl
theorem aUL:PS 256:=aF rfl
theorem aU3:PS 258:=aF rfl
theorem aTh:PS 259:=aF rfl
theorem aVN:PS 260:=aF rfl
theorem aTK:PS 261:=aF rfl
theorem aUN:PS 262:=aF rfl
theorem aWv:PS 265:=aF rfl
theorem aUl:PS 266:=aF rfl
theorem aV3:PS 267:=aF rfl
theorem aVk:PS 269:=aF rfl
theorem aVo:PS 270:=aF rfl
theorem aUY:PS 284:=aF rfl
theorem aT6:PS 291:=aF rfl
theorem aVY:PS 292:=aF rfl
theorem aWI:PS 293:=aF rfl
theorem aWY:PS 299:=aF rfl
theorem aWH:PS 303:=aF rfl
theorem aVJ:PS 322:=aF rfl
theorem aVL:PS 323:=aF rfl
theorem aVx:PS 325:=aF rfl
theorem oL:PS 332:=aF rfl
theorem aVb:PS 333:=aF rfl
theorem aWi:PS 334:=aF rfl
theorem aSN:PS 335:=aF rfl
theorem aVO:PS 343:=aF rfl
theorem aTw:PS 366:=aF rfl
theorem aTq:PS 372:=aF rfl
theorem aSA:PS 382:=aF rfl
theorem aVc:PS 383:=aF rfl
theorem aT4:PS 384:=aF rfl
theorem aVH:PS 385:=aF rfl
theorem aUT:PS 392:=aF rfl
theorem aS5:PS 393:=aF rfl
theorem aUw:PS 394:=aF rfl
theorem aSD:PS 395:=aF rfl
attribute [go_sem] g6 aWV YO aUX WM g7 g8 g9 g10 aLA JC aMw KM g11 aRw KV aMZ JM g12 g14 g17 aNC JL g18 aL9 LL g20 aN4 JR g21 g22 g24 g25 g26 g27 g28 aR3 MC g30 g31 g32 g33 g34 g35 g36 g37 g38 g39 g40 g41 g42 g43 g44 g45 g46 g47 g48 g49 g50 aPK IT aNb LN g51 aQz KU g53 aKI LH aQG I9 aRl JG g54 g55 g56 aMN IQ g57 g58 g59 g60 aSo KX g67 g68 g69 g70 g71 g72 g73 g74 aPb JF aQa JZ g75 g76 g77 g78 g79 g80 g81 g82 g83 g84 g85 g86 aP2 ID aMD J9 aNg KB aNK LK g87 aKT LX aO6 IA g88 g89 g90 g91 g92 g93 g94 g95 g96 g97 g98 g99 aRY aRj aGL aFr KI aDa LI aFJ aEk aDt aED aG9 aAi aDl DH aFi aCL aEJ aHg aEC aEV aCO aHs aIV ZS aDA DI aIg aEX aGY aIe aK3 aL5 aPp aLq aSn aMf aMg XY aI0 C4 aGm Z1 aCF B5 aD9 aIl aH2 aDy aC5 aHE aFO aE1 aIr aFG aEY aHL KH aIo aFF V2 aGv D9 aHF aGC aGc aC1 aCJ aDH aC9 aHQ aEE aIn aAM aE8 CK aMO aPL aLM aOe aRh aK0 aKR aPv aII aRQ aP8 aNu aOG aLd aCn aHD aBh aF7 DK aR2 aQL aNr aIB aNT aLK aDe aDB L1 aCX BV aFL BC aD8 DY aFc aES aEg aDG aD6 aI5 aDQ aHm aCN aC3 aF6 aNi aR5 aR4 aNB aK5 W4 aHZ ED aDm aEb aID aAQ aFV C1 aE3 aGJ aDZ aGo UM aFf DU aCZ B1 aGe aGu aEm G9 aGg BD aH3 CH aIC CX aHk B9 aMY aNo aPG aGW aCK aDi aIR aFz aHK aI2 aFC aGD aHW aIW aEd aGP aB3 aHb aDj SQ aE5 DB aDC DQ aBk aEH B0 aCV ZX aF8 C3 aGw aDd aG7 aGf aFQ aFR aIz aCi aGV EG ZI aEs BF aFe aHM aGR aQU aNW aEz aF0 aQN aPo aOJ aOE aLZ aKu aQb SF aEB DE aHR C5 aEv aLT aQB aL0 aHp UO aFS DV aDb BQ BP aDp EQ aCs EE aC6 BL aGy D3 aI1 EU aLl VV aIw D5 aDr DG XR aGN EH aF3 aHH aAB aE2 CY aKy aGO aEa aIQ aDU aEi aQd aHX aC0 aD0 aEo aGG aFU aGz aDg aFH aEF aFs aH7 aGM aGI aHi aFY aCA aHU aFB aBB aHo CJ aHI aRR aRF aIc aOC aMR aA5 aDD B7 aGk aLC aFw aIh aB5 aFX B4 aEp aHY aER aCC aEO aIa aDX aDV aCm aCo aC7 aPf aEG aMa aRE aFA aDo aA8 aCI DN aLN aHB aH4 aHC aDc aCW aGs aFm aEL aFE aGt aG8 aDE aE9 aEj XX aFu DS aDR aDx aGx aDS aQI Z8 aHN CF aAZ aHn EL ZO aEc C9 SX aMm aG3 aIu aFT aFv aHr aHP aPe aSq UQ aH1 ET aDL EB aI3 aGU aFo U2 aCM aIt aCz aH6 YX aIO BG ZG aGF ER aXn aXh aXR aXk aXl aXU aXA aXQ aXd aX4 aX5 aXm aXt aX1 aXu aXY aXI aXq aXH aXC aYa aXo aXP aXZ aXx aXW aWA aUV aSs aV7 aVQ aVf aUZ aVC aTe aVg aTj aVw aTu aT8 aTV aUp aUd aWa aUJ aTg aTy aTa aVG aVm aWX aW4 aVe aT5 aUe aTx aU8 aUA aUy aUu aSy aWu aUH aWt aUM aS1 aTX aTQ aUL aU3 aTh aVN aTK aUN aWv aUl aV3 aVk aVo aUY aT6 aVY aWI aWY aWH aVJ aVL aVx oL aVb aWi aSN aVO aTw aTq aSA aVc aT4 aVH aUT aS5 aUw aSD aX0 aXp aX9 aW8 aXF aVP aTr aUW aUF aTD aT1 aUa aWK aWL aUo aVW aWn aTi aVu aT0 aTN aWs aUf aUj aSv aSR aVZ aSY aSL aU0 aSF aWz aST aWr aSE aV6 aTL aT3 aVd aTC aWg aWw aU5 aW5 aWl aWD aQ0 aKA aLt aM2 aPT aNO aPN aNz aOK aQo aMk aRo aR7 aOn aKP aRZ aMF aNw aPP aMj aQQ aOW aM5 aLe aPz aQD aNP aQW aMz aN2 aLu aOq aPV aPQ aMM aM9 aKG aOv aQ4 aQe aOA aLo aPa aN9 aLy aNa aQw aMI aRk aRb aKQ aPq aNn aSh aM3 aMs aK6 aPM aNI aOT aOs aMW aMo aQv aNm aPE aN8 aOV aPW aOZ aPw aK4 aRx aMe aRy aP6 aKw aNL aNc aKB aLU aNV aO4 aOt aRA aM7 aMQ aRi aRO aRB aPZ aON aQg aQk aQK aNs aMV aR9 aOS aRc aPj aKD aOu aNk aRC aLV aPA aMc aQT aKU aLc aR0 aOB aRX aRJ aRg aNl aQE th1 th3 th4 th5 th9 aCH aCv aGr aH5 aGZ aFp aGB aET aIj aCl aHj aF2 aHf aFh aG5 aCE aIY aDY aF4 aIE aF5 aGd aAK aBT aDN aFk aIb aHA aFn UW aC2 GM aCx aHJ FJ aDz aI6 aDF aDn aDO aCQ M0 N9 O4 RO NN RN NW OL vH A3 QS A6 AD MI AX P7 M9 A8 PL NH RH PH SD MP N3 P6 R9 OH Q6 MQ PQ Q8 QR NL OY GY M7 u4 OI PA M6 NK QZ ND ML HQ NZ PG NA OT PP QF Q9 OO NV N8 RF PU QE OM OU OJ MT RM PC OG NC SC NE RK MS HT MH OC RP QM H4 MY PF QW OP O6 OW RC QB PT RU NQ Q0 Q1 OV N6 O0 MK R4 PJ M8 RW O5 PX SA OE NO QP M4 NS QT N7 OD PO QY RA N5 R3 MW O1 QQ RJ aXN aXS aXB aXM aXe
abbrev Sv(s:ByteArray):A:=.v (.string s)
abbrev I8(n:Int):A:=.v (.int .u8 n)
abbrev I64(n:Int):A:=.v (.int .i64 n)
abbrev Bo(b:Bool):A:=.v (.bool b)
theorem lC(s:ByteArray):s.data.toList.length=s.size:=rfl
def gX:Nat->aE->aE|0,H=>H|_+1,[]=>[]|m+1,_::H=>none::gX m H
def qU:Nat->aE->aE|0,H=>H.map fun _=>none|_+1,[]=>[]|m+1,b::H=>b::qU m H
theorem lF:∀{m:Nat}{H:aE}{b:Nat}{k:Blk},(gX m H)[b]?=some (some k)↔m<=b/\H[b]?=some (some k)|0,H,b,k=>by simp[gX]|_+1,[],b,k=>by simp[gX]|m+1,x::H,0,k=>by simp[gX]|m+1,x::H,b+1,k=>by simpa[gX]using lF (m:=m) (H:=H) (b:=b) (k:=k)
theorem oW:∀{m:Nat}{H:aE}{b:Nat}{k:Blk},(qU m H)[b]?=some (some k)↔b<m/\H[b]?=some (some k)|0,H,b,k=>by simp[qU]|_+1,[],b,k=>by simp[qU]|m+1,x::H,0,k=>by simp[qU]|m+1,x::H,b+1,k=>by simpa[qU]using oW (m:=m) (H:=H) (b:=b) (k:=k)
theorem zV:∀(m:Nat) (H:aE),(gX m H).length=H.length|0,H=>rfl|_+1,[]=>rfl|m+1,x::H=>by simp[gX,zV m H]
theorem HU:∀(m:Nat) (H:aE),(qU m H).length=H.length|0,H=>by simp[qU]|_+1,[]=>rfl|m+1,x::H=>by simp[qU,HU m H]
theorem aAk{T:Tb}{P:Program}{f:FuncId}{zs:List A}{H H':aE}{x y:A}{m:Nat}(hen:uE P f)(h:pH T P f zs H x H')(hy:freeze (gX m H') 20 x=some y):pH T P f zs H y (qU m H'):=by rcases h with⟨zs',hl,-,-,hat⟩|⟨-,hcall⟩;{refine .inr ⟨hen,fun c ys hH ok hr=>?_⟩;subst hH;obtain⟨v,h1,-⟩:=hat [] (fun g=>c.own g/\¬img c.ρ c.H g) c.w ys (nR ok (fun g hg=>hg) zs zs' ys hl hr);rw[hen]at h1;simp at h1};{refine .inr ⟨hen,fun c ys hH ok hr=>(hcall c ys hH ok hr).mono ?_⟩;rintro e w' ⟨v,c',rfl,rfl,hH',hto,ok',hR⟩;subst hH';have hh:∀g,img c'.ρ (gX m c'.H) g->img c'.ρ c'.H g:=fun g ⟨b,k,hb,hg⟩=>⟨b,k,(lF.1 hb).2,hg⟩;(have hc:∀g,img c'.ρ (qU m c'.H) g->img c'.ρ c'.H g/\¬img c'.ρ (gX m c'.H) g:=fun g ⟨b,k,hb,hg⟩=>by obtain⟨hb1,hb2⟩:=oW.1 hb;refine⟨⟨b,k,hb2,hg⟩,fun⟨b',k',hb',hg'⟩=>?_⟩;obtain⟨h1,h2⟩:=lF.1 hb';have:=ok'.inj b b' k k' g hb2 h2 hg hg';omega);have ok2:Ok T.gl ⟨c'.ρ,c'.own,gX m c'.H,c'.w⟩:=⟨by rw[zV];exact ok'.len,ok'.lt,fun g hi=>ok'.img g (hh g hi),fun b e cs wh g hb hg=>ok'.blk b e cs wh g (lF.1 hb).2 hg,fun b b' k k' g hb hb'=>ok'.inj b b' k k' g (lF.1 hb).2 (lF.1 hb').2,ok'.glob⟩;(have hlend:dP (gX m c'.H) [x]=some [y]:=by unfold dP dP;rw[hy]);have hRL:RL c'.ρ c'.own c'.w [x] [v]:=RL.cons hR (by rw[RL]);have hy':=nR ok2 (own:=fun g=>c'.own g/\¬img c'.ρ (gX m c'.H) g) (fun g hg=>hg) [x] [y] [v] hlend hRL;(have hRy:R [] (fun g=>c'.own g/\¬img c'.ρ (gX m c'.H) g) c'.w y v:=by rw[RL]at hy';obtain⟨v',ys',e,h1,-⟩:=hy';simp only[List.cons.injEq]at e;obtain⟨rfl,-⟩:=e;exact h1);have hk:iE c'.ρ c'.own c'.w c'.ρ (fun g=>c'.own g/\¬img c'.ρ (gX m c'.H) g) c'.w:=⟨List.prefix_rfl,Nat.le_refl _,fun g _ h=>⟨fun h'=>h h'.1,rfl⟩,fun _ cur _ fz h=>⟨cur,fz,h,rfl⟩,fun _ es n h=>⟨es,n,h⟩,fun _ o h _=>⟨o,h,rfl⟩⟩;refine⟨v,⟨c'.ρ,fun g=>c'.own g/\¬img c'.ρ (gX m c'.H) g,qU m c'.H,c'.w⟩,rfl,rfl,rfl,?_,?_,hRy.open_⟩;{refine⟨hto.pre,hto.size,hto.os,hto.tape,hto.output,fun g hg hi=>hto.img g hg (hc g hi).1,hto.same,hto.shape,hto.maps,hto.kinds,fun g hg=>⟨fun h=>(hto.own g hg).1 h.1,fun h=>?_⟩⟩;rcases(hto.own g hg).2 h with h1|h1;{by_cases hi:img c'.ρ (gX m c'.H) g;{exact .inr (hto.img g hg (hh g hi))};{exact .inl ⟨h1,hi⟩}};{exact .inr h1}};{exact⟨by rw[HU];exact ok'.len,fun g hg=>ok'.lt g hg.1,fun g hi=>⟨ok'.img g (hc g hi).1,(hc g hi).2⟩,fun b e cs wh g hb hg=>(ok'.blk b e cs wh g (oW.1 hb).2 hg).keep hk rfl,fun b b' k k' g hb hb'=>ok'.inj b b' k k' g (oW.1 hb).2 (oW.1 hb').2,ok'.glob.less fun g h=>h.1⟩}}
def yF(x:A)(H:aE):Nat->Option (A×aE)|0=>(freeze (gX 0 H) 20 x).map fun y=>(y,qU 0 H)|m+1=>match freeze (gX (m+1) H) 20 x with|some y=>some (y,qU (m+1) H)|none=>yF x H m
theorem vG{x y:A}{H K:aE}:∀{m:Nat},yF x H m=some (y,K)->∃m,freeze (gX m H) 20 x=some y/\K=qU m H|0,h=>(by unfold yF at h;cases h1:freeze (gX 0 H) 20 x with|none=>simp[h1]at h|some z=>simp only[h1,Option.map_some,Option.some.injEq,Prod.mk.injEq]at h;exact⟨0,by rw[h1,h.1],h.2.symm⟩)|m+1,h=>by unfold yF at h;cases h1:freeze (gX (m+1) H) 20 x with|none=>rw[h1]at h;exact vG h|some z=>simp only[h1,Option.some.injEq,Prod.mk.injEq]at h;exact⟨m+1,by rw[h1,h.1],h.2.symm⟩
