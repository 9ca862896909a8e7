/- The evaluator's context: types and bodies, and that they are the program's. Printed by wip/ev/gen/ctx.py. -/
import Derived.Test.YtcgigdeehcmdkaaGreatDoorL07
import Derived.Test.YtcgigdeehcmdkaaGreatDoorL08
import Derived.Test.YtcgigdeehcmdkaaGreatDoorL09
import Derived.Test.YtcgigdeehcmdkaaGreatDoorL10
import Derived.Test.YtcgigdeehcmdkaaGreatDoorL05
set_option linter.all false
namespace Go.Proofs.YtcgigdeehcmdkaaGreatDoor.Ev
open Go Go.RowKit
set_option maxRecDepth 100000
def aPe:List (Nat×List Value):=[(3,[.int .u8 0,.int .u8 1,.int .u8 56,.int .u8 2,.int .u8 57,.int .u8 49,.int .u8 28,.int .u8 3,.int .u8 61,.int .u8 58,.int .u8 42,.int .u8 50,.int .u8 38,.int .u8 29,.int .u8 17,.int .u8 4,.int .u8 62,.int .u8 47,.int .u8 59,.int .u8 36,.int .u8 45,.int .u8 43,.int .u8 51,.int .u8 22,.int .u8 53,.int .u8 39,.int .u8 33,.int .u8 30,.int .u8 24,.int .u8 18,.int .u8 12,.int .u8 5,.int .u8 63,.int .u8 55,.int .u8 48,.int .u8 27,.int .u8 60,.int .u8 41,.int .u8 37,.int .u8 16,.int .u8 46,.int .u8 35,.int .u8 44,.int .u8 21,.int .u8 52,.int .u8 32,.int .u8 23,.int .u8 11,.int .u8 54,.int .u8 26,.int .u8 40,.int .u8 15,.int .u8 34,.int .u8 20,.int .u8 31,.int .u8 10,.int .u8 25,.int .u8 14,.int .u8 19,.int .u8 9,.int .u8 13,.int .u8 8,.int .u8 7,.int .u8 6]),(0,[.int .i64 4,.int .i64 2,.int .i64 4,.int .i64 4,.int .i64 4]),(4,[.int .u8 0,.int .u8 35,.int .u8 38,.int .u8 29,.int .u8 7,.int .u8 7,.int .u8 15,.int .u8 32,.int .u8 92]),(1,[.int .u8 0,.int .u8 96,.int .u8 96,.int .u8 104,.int .u8 96,.int .u8 104,.int .u8 145,.int .u8 147,.int .u8 145,.int .u8 144,.int .u8 190,.int .u8 146,.int .u8 160]),(2,[.int .u8 0,.int .u8 1,.int .u8 1,.int .u8 1,.int .u8 3,.int .u8 3,.int .u8 2,.int .u8 2,.int .u8 2,.int .u8 2,.int .u8 3,.int .u8 3,.int .u8 3])]
def aSV:BT Ty:=(.node 215 TO.t (.node 83 aJS.t (.node 42 aG5 (.node 27 aHC.t (.node 20 aHx.t (.node 4 th4.t (.node 3 th3.t (.node 1 th1.t .nil .nil) .nil) (.node 9 th9.t (.node 5 th5.t .nil .nil) .nil)) (.node 24 aHW.t (.node 23 aEu.t (.node 22 aKU.t .nil .nil) .nil) (.node 25 aGu.t .nil .nil))) (.node 36 aKj.t (.node 33 aJl.t (.node 31 aIY.t (.node 29 aH6.t .nil .nil) .nil) (.node 34 aGd.t .nil .nil)) (.node 39 aH2.t (.node 38 aHD (.node 37 aIA .nil .nil) .nil) (.node 40 aGX .nil .nil)))) (.node 59 aE7.t (.node 51 aHQ.t (.node 46 aLq.t (.node 45 aH4.t (.node 44 aKy .nil .nil) .nil) (.node 49 aIy.t (.node 48 aHR.t .nil .nil) .nil)) (.node 56 aG4.t (.node 55 aCM.t (.node 54 aCi.t .nil .nil) .nil) (.node 57 aGh.t .nil .nil))) (.node 65 HH.t (.node 63 YW.t (.node 61 aK6.t (.node 60 aJ1.t .nil .nil) .nil) (.node 64 aEy .nil .nil)) (.node 77 J2.t (.node 73 aIB.t (.node 67 aFl.t .nil .nil) .nil) (.node 79 aH9.t .nil .nil))))) (.node 131 SF.t (.node 116 TW.t (.node 106 R9.t (.node 97 aGq.t (.node 95 aI6.t (.node 88 aHU.t .nil .nil) .nil) (.node 102 Q9.t (.node 99 aFF.t .nil .nil) .nil)) (.node 111 TN.t (.node 110 RY.t (.node 108 SH.t .nil .nil) .nil) (.node 113 QM.t .nil .nil))) (.node 124 AP.t (.node 120 BU.t (.node 118 vS.t (.node 117 QH.t .nil .nil) .nil) (.node 122 RH.t .nil .nil)) (.node 128 B8.t (.node 126 PT (.node 125 AL .nil .nil) .nil) (.node 129 US.t .nil .nil)))) (.node 162 PG.t (.node 148 R7.t (.node 145 PY.t (.node 139 PW.t (.node 133 BJ .nil .nil) .nil) (.node 146 QY.t .nil .nil)) (.node 155 O8.t (.node 153 U0.t (.node 149 RD.t .nil .nil) .nil) (.node 159 PB.t .nil .nil))) (.node 186 O4.t (.node 165 UQ.t (.node 164 RJ.t (.node 163 RR.t .nil .nil) .nil) (.node 166 T8.t .nil .nil)) (.node 212 R5.t (.node 205 QG.t (.node 196 RU.t .nil .nil) .nil) (.node 213 JI.t .nil .nil)))))) (.node 356 P5.t (.node 285 Q3.t (.node 249 UN.t (.node 242 RP.t (.node 237 SN.t (.node 235 UC.t (.node 226 vQ.t .nil .nil) .nil) (.node 241 Q4.t (.node 239 TA.t .nil .nil) .nil)) (.node 247 IR.t (.node 245 OZ.t (.node 244 UF.t .nil .nil) .nil) (.node 248 O7.t .nil .nil))) (.node 273 QL.t (.node 257 TR.t (.node 254 U9.t (.node 252 T7.t .nil .nil) .nil) (.node 264 UW.t .nil .nil)) (.node 278 PP.t (.node 277 TY.t (.node 275 UB.t .nil .nil) .nil) (.node 283 UJ.t .nil .nil)))) (.node 340 QQ.t (.node 318 QR.t (.node 315 S9.t (.node 314 PQ.t (.node 287 UI.t .nil .nil) .nil) (.node 316 RX.t .nil .nil)) (.node 336 RB.t (.node 321 UT.t (.node 320 PE.t .nil .nil) .nil) (.node 337 T4.t .nil .nil))) (.node 349 SC.t (.node 345 RN.t (.node 344 RT.t (.node 342 OY.t .nil .nil) .nil) (.node 348 IK.t .nil .nil)) (.node 353 PX.t (.node 352 QS.t (.node 351 T6.t .nil .nil) .nil) (.node 355 JR.t .nil .nil))))) (.node 436 TD.t (.node 397 QN.t (.node 375 SP.t (.node 365 SD.t (.node 364 Q0.t (.node 357 R6.t .nil .nil) .nil) (.node 374 TT.t (.node 371 TM.t .nil .nil) .nil)) (.node 388 RM.t (.node 377 UD.t (.node 376 PD.t .nil .nil) .nil) (.node 391 PH.t .nil .nil))) (.node 427 OV.t (.node 412 OQ.t (.node 405 T5.t (.node 403 O9.t .nil .nil) .nil) (.node 424 SO.t .nil .nil)) (.node 432 R8.t (.node 431 U1.t (.node 429 QC.t .nil .nil) .nil) (.node 435 PZ.t .nil .nil)))) (.node 462 TE.t (.node 450 RC.t (.node 442 PU.t (.node 440 OR.t (.node 438 P9.t .nil .nil) .nil) (.node 449 TX.t .nil .nil)) (.node 455 Q7.t (.node 454 PO.t (.node 453 P6.t .nil .nil) .nil) (.node 460 P7.t .nil .nil))) (.node 485 TF.t (.node 479 UK (.node 471 RE.t (.node 467 TC.t .nil .nil) .nil) (.node 480 S7.t .nil .nil)) (.node 496 TH.t (.node 493 U3.t (.node 491 QO.t .nil .nil) .nil) (.node 500 T9.t .nil .nil)))))))
def aPE:BT MFn:=(.node 211 aKB.fn (.node 109 aGc.fn (.node 57 g57.fn (.node 33 g33.fn (.node 20 g20.fn (.node 11 g11.fn (.node 8 g8.fn (.node 7 g7.fn (.node 5 g5.fn .nil .nil) .nil) (.node 10 g10.fn (.node 9 g9.fn .nil .nil) .nil)) (.node 14 g14.fn (.node 13 g13.fn (.node 12 g12.fn .nil .nil) .nil) (.node 18 g18.fn (.node 17 g17.fn .nil .nil) .nil))) (.node 27 g27.fn (.node 23 g23.fn (.node 22 g22.fn (.node 21 g21.fn .nil .nil) .nil) (.node 26 g26.fn (.node 25 g25.fn .nil .nil) .nil)) (.node 31 g31.fn (.node 30 g30.fn (.node 28 g28.fn .nil .nil) .nil) (.node 32 g32.fn .nil .nil)))) (.node 45 g45.fn (.node 39 g39.fn (.node 36 g36.fn (.node 35 g35.fn (.node 34 g34.fn .nil .nil) .nil) (.node 38 g38.fn (.node 37 g37.fn .nil .nil) .nil)) (.node 42 g42.fn (.node 41 g41.fn (.node 40 g40.fn .nil .nil) .nil) (.node 44 g44.fn (.node 43 g43.fn .nil .nil) .nil))) (.node 51 g51.fn (.node 48 g48.fn (.node 47 g47.fn (.node 46 g46.fn .nil .nil) .nil) (.node 50 g50.fn (.node 49 g49.fn .nil .nil) .nil)) (.node 55 g55.fn (.node 54 g54.fn (.node 53 g53.fn .nil .nil) .nil) (.node 56 g56.fn .nil .nil))))) (.node 86 g86.fn (.node 75 g75.fn (.node 69 g69.fn (.node 60 g60.fn (.node 59 g59.fn (.node 58 g58.fn .nil .nil) .nil) (.node 68 g68.fn (.node 67 g67.fn .nil .nil) .nil)) (.node 72 g72.fn (.node 71 g71.fn (.node 70 g70.fn .nil .nil) .nil) (.node 74 g74.fn (.node 73 g73.fn .nil .nil) .nil))) (.node 81 g81.fn (.node 78 g78.fn (.node 77 g77.fn (.node 76 g76.fn .nil .nil) .nil) (.node 80 g80.fn (.node 79 g79.fn .nil .nil) .nil)) (.node 84 g84.fn (.node 83 g83.fn (.node 82 g82.fn .nil .nil) .nil) (.node 85 g85.fn .nil .nil)))) (.node 98 g98.fn (.node 92 g92.fn (.node 89 g89.fn (.node 88 g88.fn (.node 87 g87.fn .nil .nil) .nil) (.node 91 g91.fn (.node 90 g90.fn .nil .nil) .nil)) (.node 95 g95.fn (.node 94 g94.fn (.node 93 g93.fn .nil .nil) .nil) (.node 97 g97.fn (.node 96 g96.fn .nil .nil) .nil))) (.node 104 OI.fn (.node 101 V5.fn (.node 100 aF4.fn (.node 99 g99.fn .nil .nil) .nil) (.node 103 aGl.fn (.node 102 aJ0.fn .nil .nil) .nil)) (.node 107 aKa.fn (.node 106 LW.fn (.node 105 aIp.fn .nil .nil) .nil) (.node 108 aEA.fn .nil .nil)))))) (.node 166 aEw.fn (.node 138 aPi.fn (.node 121 aGR.fn (.node 115 aKQ.fn (.node 112 Z9.fn (.node 111 aIb.fn (.node 110 aJ6.fn .nil .nil) .nil) (.node 114 aFD.fn (.node 113 aFt.fn .nil .nil) .nil)) (.node 118 aE2.fn (.node 117 aGZ.fn (.node 116 aHI.fn .nil .nil) .nil) (.node 120 aFL.fn (.node 119 aFR.fn .nil .nil) .nil))) (.node 127 aNq.fn (.node 124 aIN.fn (.node 123 aHY.fn (.node 122 aCd.fn .nil .nil) .nil) (.node 126 aHF.fn (.node 125 aII.fn .nil .nil) .nil)) (.node 130 aUm.fn (.node 129 aTk.fn (.node 128 aNB.fn .nil .nil) .nil) (.node 136 aTd.fn .nil .nil)))) (.node 155 aHf.fn (.node 149 aG7.fn (.node 146 aKS.fn (.node 145 aDG.fn (.node 144 aQr.fn .nil .nil) .nil) (.node 148 aEx.fn (.node 147 aDx.fn .nil .nil) .nil)) (.node 152 aF8.fn (.node 151 aGI.fn (.node 150 aIU.fn .nil .nil) .nil) (.node 154 aGU.fn (.node 153 aIW.fn .nil .nil) .nil))) (.node 161 aLy.fn (.node 158 aLr.fn (.node 157 aJ2.fn (.node 156 aH7.fn .nil .nil) .nil) (.node 160 KM.fn (.node 159 aIo.fn .nil .nil) .nil)) (.node 164 aGY.fn (.node 163 Y0.fn (.node 162 aFV.fn .nil .nil) .nil) (.node 165 aKz.fn .nil .nil))))) (.node 189 aId.fn (.node 178 aOI.fn (.node 172 aJ3.fn (.node 169 aHT.fn (.node 168 aLp.fn (.node 167 aIL.fn .nil .nil) .nil) (.node 171 aIv.fn (.node 170 aGA.fn .nil .nil) .nil)) (.node 175 aNU.fn (.node 174 aD5.fn (.node 173 aJx.fn .nil .nil) .nil) (.node 177 aQ2.fn (.node 176 aQ1.fn .nil .nil) .nil))) (.node 184 aRJ.fn (.node 181 aRi.fn (.node 180 aOM.fn (.node 179 aP6.fn .nil .nil) .nil) (.node 183 aJd.fn (.node 182 aOW.fn .nil .nil) .nil)) (.node 187 aSe.fn (.node 186 aUc.fn (.node 185 aPq.fn .nil .nil) .nil) (.node 188 aTS.fn .nil .nil)))) (.node 200 KV.fn (.node 195 aEG.fn (.node 192 aHa.fn (.node 191 aAS.fn (.node 190 aF0.fn .nil .nil) .nil) (.node 194 aHm.fn (.node 193 aFh.fn .nil .nil) .nil)) (.node 198 aLh.fn (.node 197 aFu.fn (.node 196 aJu.fn .nil .nil) .nil) (.node 199 aHH.fn .nil .nil))) (.node 206 aGw.fn (.node 203 aJD.fn (.node 202 aHq.fn (.node 201 aI2.fn .nil .nil) .nil) (.node 205 aKq.fn (.node 204 aI4.fn .nil .nil) .nil)) (.node 209 aGO.fn (.node 208 aFw.fn (.node 207 aJU.fn .nil .nil) .nil) (.node 210 aGK.fn .nil .nil))))))) (.node 308 aKt.fn (.node 259 aIV.fn (.node 236 aK8.fn (.node 225 aKx.fn (.node 219 aDQ.fn (.node 214 aOR.fn (.node 213 aPl.fn (.node 212 aQp.fn .nil .nil) .nil) (.node 216 aTL.fn (.node 215 aOF.fn .nil .nil) .nil)) (.node 222 aKp.fn (.node 221 aKv.fn (.node 220 aKs.fn .nil .nil) .nil) (.node 224 aGm.fn (.node 223 aCH.fn .nil .nil) .nil))) (.node 231 aIx.fn (.node 228 YQ.fn (.node 227 aEI.fn (.node 226 aIE.fn .nil .nil) .nil) (.node 230 aJL.fn (.node 229 aJv.fn .nil .nil) .nil)) (.node 234 aSj.fn (.node 233 aQb.fn (.node 232 JZ.fn .nil .nil) .nil) (.node 235 aQK.fn .nil .nil)))) (.node 248 aLt.fn (.node 242 aKK.fn (.node 239 aLc.fn (.node 238 aGD.fn (.node 237 aKG.fn .nil .nil) .nil) (.node 241 aHe.fn (.node 240 aIC.fn .nil .nil) .nil)) (.node 245 aJs.fn (.node 244 aFj.fn (.node 243 aGW.fn .nil .nil) .nil) (.node 247 aKd.fn (.node 246 aJb.fn .nil .nil) .nil))) (.node 254 aJ9.fn (.node 251 aJn.fn (.node 250 aHN.fn (.node 249 aBy.fn .nil .nil) .nil) (.node 253 Y8.fn (.node 252 YB.fn .nil .nil) .nil)) (.node 257 aIM.fn (.node 256 aE5.fn (.node 255 aCw.fn .nil .nil) .nil) (.node 258 aLe.fn .nil .nil))))) (.node 282 VN.fn (.node 271 aGp.fn (.node 265 aIZ.fn (.node 262 aLs.fn (.node 261 aJV.fn (.node 260 aFE.fn .nil .nil) .nil) (.node 264 aCJ.fn (.node 263 aBE.fn .nil .nil) .nil)) (.node 268 aRv.fn (.node 267 aJq.fn (.node 266 aFZ.fn .nil .nil) .nil) (.node 270 aLd.fn (.node 269 aSw.fn .nil .nil) .nil))) (.node 277 aSc.fn (.node 274 aR5.fn (.node 273 aUg.fn (.node 272 aPb.fn .nil .nil) .nil) (.node 276 aRw.fn (.node 275 aUT.fn .nil .nil) .nil)) (.node 280 aIc.fn (.node 279 VX.fn (.node 278 aSX.fn .nil .nil) .nil) (.node 281 aAu.fn .nil .nil)))) (.node 296 aRK.fn (.node 291 XP.fn (.node 285 YT.fn (.node 284 aI8.fn (.node 283 aJX.fn .nil .nil) .nil) (.node 287 aQv.fn (.node 286 F4.fn .nil .nil) .nil)) (.node 294 aHz.fn (.node 293 aKJ.fn (.node 292 aEg.fn .nil .nil) .nil) (.node 295 aDE.fn .nil .nil))) (.node 303 aPv.fn (.node 299 aKF.fn (.node 298 aK7.fn (.node 297 aFG.fn .nil .nil) .nil) (.node 302 aGT.fn (.node 300 aF6.fn .nil .nil) .nil)) (.node 306 aFM.fn (.node 305 aJT.fn (.node 304 aIP.fn .nil .nil) .nil) (.node 307 aGe.fn .nil .nil)))))) (.node 354 aOO.fn (.node 331 aFs.fn (.node 320 aIg.fn (.node 314 aFW.fn (.node 311 aHt.fn (.node 310 aGP.fn (.node 309 aGx.fn .nil .nil) .nil) (.node 313 aFX.fn (.node 312 aF9.fn .nil .nil) .nil)) (.node 317 aIQ.fn (.node 316 aKX.fn (.node 315 aIn.fn .nil .nil) .nil) (.node 319 aHV.fn (.node 318 aGL.fn .nil .nil) .nil))) (.node 326 aRG.fn (.node 323 aBs.fn (.node 322 aGC.fn (.node 321 aKL.fn .nil .nil) .nil) (.node 325 aSF.fn (.node 324 aKi.fn .nil .nil) .nil)) (.node 329 aR0.fn (.node 328 XZ.fn (.node 327 aJB.fn .nil .nil) .nil) (.node 330 aCz.fn .nil .nil)))) (.node 343 aH8.fn (.node 337 aG8.fn (.node 334 aKh.fn (.node 333 aEC.fn (.node 332 aS3.fn .nil .nil) .nil) (.node 336 aHP.fn (.node 335 aDn.fn .nil .nil) .nil)) (.node 340 aFi.fn (.node 339 aLo.fn (.node 338 aLi.fn .nil .nil) .nil) (.node 342 aJc.fn (.node 341 aER.fn .nil .nil) .nil))) (.node 349 aUG.fn (.node 346 aJP.fn (.node 345 aLg.fn (.node 344 aEV.fn .nil .nil) .nil) (.node 348 aHL.fn (.node 347 aUr.fn .nil .nil) .nil)) (.node 352 aLj.fn (.node 351 aKr.fn (.node 350 aUt.fn .nil .nil) .nil) (.node 353 aBz.fn .nil .nil))))) (.node 377 ZA.fn (.node 366 aHw.fn (.node 360 aKO.fn (.node 357 aEP.fn (.node 356 aFp.fn (.node 355 aIT.fn .nil .nil) .nil) (.node 359 aFa.fn (.node 358 aI9.fn .nil .nil) .nil)) (.node 363 aHs.fn (.node 362 aHK.fn (.node 361 aI3.fn .nil .nil) .nil) (.node 365 aIl.fn (.node 364 aK1.fn .nil .nil) .nil))) (.node 372 aHu.fn (.node 369 Y2.fn (.node 368 aGS.fn (.node 367 aFQ.fn .nil .nil) .nil) (.node 371 aHl.fn (.node 370 aJI.fn .nil .nil) .nil)) (.node 375 aCS.fn (.node 374 aNf.fn (.node 373 aHX.fn .nil .nil) .nil) (.node 376 aB3.fn .nil .nil)))) (.node 388 YV.fn (.node 383 aGa.fn (.node 380 aIR.fn (.node 379 aPa.fn (.node 378 VS.fn .nil .nil) .nil) (.node 382 aK5.fn (.node 381 aEB.fn .nil .nil) .nil)) (.node 386 aNK.fn (.node 385 aFm.fn (.node 384 aGE.fn .nil .nil) .nil) (.node 387 aRz.fn .nil .nil))) (.node 394 aLv.fn (.node 391 aFN.fn (.node 390 aJp.fn (.node 389 aI7.fn .nil .nil) .nil) (.node 393 aGr.fn (.node 392 V6.fn .nil .nil) .nil)) (.node 397 aCj.fn (.node 396 aKA.fn (.node 395 aE9.fn .nil .nil) .nil) (.node 398 ZU.fn .nil .nil))))))))
def Cz:Ctx:=⟨⟨aSV.get,⟨vN aPe,aC5,aZI⟩⟩,aPE.get,aDA,SG⟩
theorem D9:kR Tryz.prog Cz:=aDS (by kernel_rfl) ⟨TO.h,⟨aJS.h,⟨(show rP Tryz.prog 42=some aG5 by kernel_rfl),⟨aHC.h,⟨aHx.h,⟨th4.h,⟨th3.h,⟨th1.h,⟨⟩,⟨⟩⟩,⟨⟩⟩,⟨th9.h,⟨th5.h,⟨⟩,⟨⟩⟩,⟨⟩⟩⟩,⟨aHW.h,⟨aEu.h,⟨aKU.h,⟨⟩,⟨⟩⟩,⟨⟩⟩,⟨aGu.h,⟨⟩,⟨⟩⟩⟩⟩,⟨aKj.h,⟨aJl.h,⟨aIY.h,⟨aH6.h,⟨⟩,⟨⟩⟩,⟨⟩⟩,⟨aGd.h,⟨⟩,⟨⟩⟩⟩,⟨aH2.h,⟨(show rP Tryz.prog 38=some aHD by kernel_rfl),⟨(show rP Tryz.prog 37=some aIA by kernel_rfl),⟨⟩,⟨⟩⟩,⟨⟩⟩,⟨(show rP Tryz.prog 40=some aGX by kernel_rfl),⟨⟩,⟨⟩⟩⟩⟩⟩,⟨aE7.h,⟨aHQ.h,⟨aLq.h,⟨aH4.h,⟨(show rP Tryz.prog 44=some aKy by kernel_rfl),⟨⟩,⟨⟩⟩,⟨⟩⟩,⟨aIy.h,⟨aHR.h,⟨⟩,⟨⟩⟩,⟨⟩⟩⟩,⟨aG4.h,⟨aCM.h,⟨aCi.h,⟨⟩,⟨⟩⟩,⟨⟩⟩,⟨aGh.h,⟨⟩,⟨⟩⟩⟩⟩,⟨HH.h,⟨YW.h,⟨aK6.h,⟨aJ1.h,⟨⟩,⟨⟩⟩,⟨⟩⟩,⟨(show rP Tryz.prog 64=some aEy by kernel_rfl),⟨⟩,⟨⟩⟩⟩,⟨J2.h,⟨aIB.h,⟨aFl.h,⟨⟩,⟨⟩⟩,⟨⟩⟩,⟨aH9.h,⟨⟩,⟨⟩⟩⟩⟩⟩⟩,⟨SF.h,⟨TW.h,⟨R9.h,⟨aGq.h,⟨aI6.h,⟨aHU.h,⟨⟩,⟨⟩⟩,⟨⟩⟩,⟨Q9.h,⟨aFF.h,⟨⟩,⟨⟩⟩,⟨⟩⟩⟩,⟨TN.h,⟨RY.h,⟨SH.h,⟨⟩,⟨⟩⟩,⟨⟩⟩,⟨QM.h,⟨⟩,⟨⟩⟩⟩⟩,⟨AP.h,⟨BU.h,⟨vS.h,⟨QH.h,⟨⟩,⟨⟩⟩,⟨⟩⟩,⟨RH.h,⟨⟩,⟨⟩⟩⟩,⟨B8.h,⟨(show rP Tryz.prog 126=some PT by kernel_rfl),⟨(show rP Tryz.prog 125=some AL by kernel_rfl),⟨⟩,⟨⟩⟩,⟨⟩⟩,⟨US.h,⟨⟩,⟨⟩⟩⟩⟩⟩,⟨PG.h,⟨R7.h,⟨PY.h,⟨PW.h,⟨(show rP Tryz.prog 133=some BJ by kernel_rfl),⟨⟩,⟨⟩⟩,⟨⟩⟩,⟨QY.h,⟨⟩,⟨⟩⟩⟩,⟨O8.h,⟨U0.h,⟨RD.h,⟨⟩,⟨⟩⟩,⟨⟩⟩,⟨PB.h,⟨⟩,⟨⟩⟩⟩⟩,⟨O4.h,⟨UQ.h,⟨RJ.h,⟨RR.h,⟨⟩,⟨⟩⟩,⟨⟩⟩,⟨T8.h,⟨⟩,⟨⟩⟩⟩,⟨R5.h,⟨QG.h,⟨RU.h,⟨⟩,⟨⟩⟩,⟨⟩⟩,⟨JI.h,⟨⟩,⟨⟩⟩⟩⟩⟩⟩⟩,⟨P5.h,⟨Q3.h,⟨UN.h,⟨RP.h,⟨SN.h,⟨UC.h,⟨vQ.h,⟨⟩,⟨⟩⟩,⟨⟩⟩,⟨Q4.h,⟨TA.h,⟨⟩,⟨⟩⟩,⟨⟩⟩⟩,⟨IR.h,⟨OZ.h,⟨UF.h,⟨⟩,⟨⟩⟩,⟨⟩⟩,⟨O7.h,⟨⟩,⟨⟩⟩⟩⟩,⟨QL.h,⟨TR.h,⟨U9.h,⟨T7.h,⟨⟩,⟨⟩⟩,⟨⟩⟩,⟨UW.h,⟨⟩,⟨⟩⟩⟩,⟨PP.h,⟨TY.h,⟨UB.h,⟨⟩,⟨⟩⟩,⟨⟩⟩,⟨UJ.h,⟨⟩,⟨⟩⟩⟩⟩⟩,⟨QQ.h,⟨QR.h,⟨S9.h,⟨PQ.h,⟨UI.h,⟨⟩,⟨⟩⟩,⟨⟩⟩,⟨RX.h,⟨⟩,⟨⟩⟩⟩,⟨RB.h,⟨UT.h,⟨PE.h,⟨⟩,⟨⟩⟩,⟨⟩⟩,⟨T4.h,⟨⟩,⟨⟩⟩⟩⟩,⟨SC.h,⟨RN.h,⟨RT.h,⟨OY.h,⟨⟩,⟨⟩⟩,⟨⟩⟩,⟨IK.h,⟨⟩,⟨⟩⟩⟩,⟨PX.h,⟨QS.h,⟨T6.h,⟨⟩,⟨⟩⟩,⟨⟩⟩,⟨JR.h,⟨⟩,⟨⟩⟩⟩⟩⟩⟩,⟨TD.h,⟨QN.h,⟨SP.h,⟨SD.h,⟨Q0.h,⟨R6.h,⟨⟩,⟨⟩⟩,⟨⟩⟩,⟨TT.h,⟨TM.h,⟨⟩,⟨⟩⟩,⟨⟩⟩⟩,⟨RM.h,⟨UD.h,⟨PD.h,⟨⟩,⟨⟩⟩,⟨⟩⟩,⟨PH.h,⟨⟩,⟨⟩⟩⟩⟩,⟨OV.h,⟨OQ.h,⟨T5.h,⟨O9.h,⟨⟩,⟨⟩⟩,⟨⟩⟩,⟨SO.h,⟨⟩,⟨⟩⟩⟩,⟨R8.h,⟨U1.h,⟨QC.h,⟨⟩,⟨⟩⟩,⟨⟩⟩,⟨PZ.h,⟨⟩,⟨⟩⟩⟩⟩⟩,⟨TE.h,⟨RC.h,⟨PU.h,⟨OR.h,⟨P9.h,⟨⟩,⟨⟩⟩,⟨⟩⟩,⟨TX.h,⟨⟩,⟨⟩⟩⟩,⟨Q7.h,⟨PO.h,⟨P6.h,⟨⟩,⟨⟩⟩,⟨⟩⟩,⟨P7.h,⟨⟩,⟨⟩⟩⟩⟩,⟨TF.h,⟨(show rP Tryz.prog 479=some UK by kernel_rfl),⟨RE.h,⟨TC.h,⟨⟩,⟨⟩⟩,⟨⟩⟩,⟨S7.h,⟨⟩,⟨⟩⟩⟩,⟨TH.h,⟨U3.h,⟨QO.h,⟨⟩,⟨⟩⟩,⟨⟩⟩,⟨T9.h,⟨⟩,⟨⟩⟩⟩⟩⟩⟩⟩⟩ ⟨fk aKB Tryz.func211,⟨fk aGc Tryz.func109,⟨fk g57 Tryz.func57,⟨fk g33 Tryz.func33,⟨fk g20 Tryz.func20,⟨fk g11 Tryz.func11,⟨fk g8 Tryz.func8,⟨fk g7 Tryz.func7,⟨fk g5 Tryz.func5,⟨⟩,⟨⟩⟩,⟨⟩⟩,⟨fk g10 Tryz.func10,⟨fk g9 Tryz.func9,⟨⟩,⟨⟩⟩,⟨⟩⟩⟩,⟨fk g14 Tryz.func14,⟨fk g13 Tryz.func13,⟨fk g12 Tryz.func12,⟨⟩,⟨⟩⟩,⟨⟩⟩,⟨fk g18 Tryz.func18,⟨fk g17 Tryz.func17,⟨⟩,⟨⟩⟩,⟨⟩⟩⟩⟩,⟨fk g27 Tryz.func27,⟨fk g23 Tryz.func23,⟨fk g22 Tryz.func22,⟨fk g21 Tryz.func21,⟨⟩,⟨⟩⟩,⟨⟩⟩,⟨fk g26 Tryz.func26,⟨fk g25 Tryz.func25,⟨⟩,⟨⟩⟩,⟨⟩⟩⟩,⟨fk g31 Tryz.func31,⟨fk g30 Tryz.func30,⟨fk g28 Tryz.func28,⟨⟩,⟨⟩⟩,⟨⟩⟩,⟨fk g32 Tryz.func32,⟨⟩,⟨⟩⟩⟩⟩⟩,⟨fk g45 Tryz.func45,⟨fk g39 Tryz.func39,⟨fk g36 Tryz.func36,⟨fk g35 Tryz.func35,⟨fk g34 Tryz.func34,⟨⟩,⟨⟩⟩,⟨⟩⟩,⟨fk g38 Tryz.func38,⟨fk g37 Tryz.func37,⟨⟩,⟨⟩⟩,⟨⟩⟩⟩,⟨fk g42 Tryz.func42,⟨fk g41 Tryz.func41,⟨fk g40 Tryz.func40,⟨⟩,⟨⟩⟩,⟨⟩⟩,⟨fk g44 Tryz.func44,⟨fk g43 Tryz.func43,⟨⟩,⟨⟩⟩,⟨⟩⟩⟩⟩,⟨fk g51 Tryz.func51,⟨fk g48 Tryz.func48,⟨fk g47 Tryz.func47,⟨fk g46 Tryz.func46,⟨⟩,⟨⟩⟩,⟨⟩⟩,⟨fk g50 Tryz.func50,⟨fk g49 Tryz.func49,⟨⟩,⟨⟩⟩,⟨⟩⟩⟩,⟨fk g55 Tryz.func55,⟨fk g54 Tryz.func54,⟨fk g53 Tryz.func53,⟨⟩,⟨⟩⟩,⟨⟩⟩,⟨fk g56 Tryz.func56,⟨⟩,⟨⟩⟩⟩⟩⟩⟩,⟨fk g86 Tryz.func86,⟨fk g75 Tryz.func75,⟨fk g69 Tryz.func69,⟨fk g60 Tryz.func60,⟨fk g59 Tryz.func59,⟨fk g58 Tryz.func58,⟨⟩,⟨⟩⟩,⟨⟩⟩,⟨fk g68 Tryz.func68,⟨fk g67 Tryz.func67,⟨⟩,⟨⟩⟩,⟨⟩⟩⟩,⟨fk g72 Tryz.func72,⟨fk g71 Tryz.func71,⟨fk g70 Tryz.func70,⟨⟩,⟨⟩⟩,⟨⟩⟩,⟨fk g74 Tryz.func74,⟨fk g73 Tryz.func73,⟨⟩,⟨⟩⟩,⟨⟩⟩⟩⟩,⟨fk g81 Tryz.func81,⟨fk g78 Tryz.func78,⟨fk g77 Tryz.func77,⟨fk g76 Tryz.func76,⟨⟩,⟨⟩⟩,⟨⟩⟩,⟨fk g80 Tryz.func80,⟨fk g79 Tryz.func79,⟨⟩,⟨⟩⟩,⟨⟩⟩⟩,⟨fk g84 Tryz.func84,⟨fk g83 Tryz.func83,⟨fk g82 Tryz.func82,⟨⟩,⟨⟩⟩,⟨⟩⟩,⟨fk g85 Tryz.func85,⟨⟩,⟨⟩⟩⟩⟩⟩,⟨fk g98 Tryz.func98,⟨fk g92 Tryz.func92,⟨fk g89 Tryz.func89,⟨fk g88 Tryz.func88,⟨fk g87 Tryz.func87,⟨⟩,⟨⟩⟩,⟨⟩⟩,⟨fk g91 Tryz.func91,⟨fk g90 Tryz.func90,⟨⟩,⟨⟩⟩,⟨⟩⟩⟩,⟨fk g95 Tryz.func95,⟨fk g94 Tryz.func94,⟨fk g93 Tryz.func93,⟨⟩,⟨⟩⟩,⟨⟩⟩,⟨fk g97 Tryz.func97,⟨fk g96 Tryz.func96,⟨⟩,⟨⟩⟩,⟨⟩⟩⟩⟩,⟨fk OI Tryz.func104,⟨fk V5 Tryz.func101,⟨fk aF4 Tryz.func100,⟨fk g99 Tryz.func99,⟨⟩,⟨⟩⟩,⟨⟩⟩,⟨fk aGl Tryz.func103,⟨fk aJ0 Tryz.func102,⟨⟩,⟨⟩⟩,⟨⟩⟩⟩,⟨fk aKa Tryz.func107,⟨fk LW Tryz.func106,⟨fk aIp Tryz.func105,⟨⟩,⟨⟩⟩,⟨⟩⟩,⟨fk aEA Tryz.func108,⟨⟩,⟨⟩⟩⟩⟩⟩⟩⟩,⟨fk aEw Tryz.func166,⟨fk aPi Tryz.func138,⟨fk aGR Tryz.func121,⟨fk aKQ Tryz.func115,⟨fk Z9 Tryz.func112,⟨fk aIb Tryz.func111,⟨fk aJ6 Tryz.func110,⟨⟩,⟨⟩⟩,⟨⟩⟩,⟨fk aFD Tryz.func114,⟨fk aFt Tryz.func113,⟨⟩,⟨⟩⟩,⟨⟩⟩⟩,⟨fk aE2 Tryz.func118,⟨fk aGZ Tryz.func117,⟨fk aHI Tryz.func116,⟨⟩,⟨⟩⟩,⟨⟩⟩,⟨fk aFL Tryz.func120,⟨fk aFR Tryz.func119,⟨⟩,⟨⟩⟩,⟨⟩⟩⟩⟩,⟨fk aNq Tryz.func127,⟨fk aIN Tryz.func124,⟨fk aHY Tryz.func123,⟨fk aCd Tryz.func122,⟨⟩,⟨⟩⟩,⟨⟩⟩,⟨fk aHF Tryz.func126,⟨fk aII Tryz.func125,⟨⟩,⟨⟩⟩,⟨⟩⟩⟩,⟨fk aUm Tryz.func130,⟨fk aTk Tryz.func129,⟨fk aNB Tryz.func128,⟨⟩,⟨⟩⟩,⟨⟩⟩,⟨fk aTd Tryz.func136,⟨⟩,⟨⟩⟩⟩⟩⟩,⟨fk aHf Tryz.func155,⟨fk aG7 Tryz.func149,⟨fk aKS Tryz.func146,⟨fk aDG Tryz.func145,⟨fk aQr Tryz.func144,⟨⟩,⟨⟩⟩,⟨⟩⟩,⟨fk aEx Tryz.func148,⟨fk aDx Tryz.func147,⟨⟩,⟨⟩⟩,⟨⟩⟩⟩,⟨fk aF8 Tryz.func152,⟨fk aGI Tryz.func151,⟨fk aIU Tryz.func150,⟨⟩,⟨⟩⟩,⟨⟩⟩,⟨fk aGU Tryz.func154,⟨fk aIW Tryz.func153,⟨⟩,⟨⟩⟩,⟨⟩⟩⟩⟩,⟨fk aLy Tryz.func161,⟨fk aLr Tryz.func158,⟨fk aJ2 Tryz.func157,⟨fk aH7 Tryz.func156,⟨⟩,⟨⟩⟩,⟨⟩⟩,⟨fk KM Tryz.func160,⟨fk aIo Tryz.func159,⟨⟩,⟨⟩⟩,⟨⟩⟩⟩,⟨fk aGY Tryz.func164,⟨fk Y0 Tryz.func163,⟨fk aFV Tryz.func162,⟨⟩,⟨⟩⟩,⟨⟩⟩,⟨fk aKz Tryz.func165,⟨⟩,⟨⟩⟩⟩⟩⟩⟩,⟨fk aId Tryz.func189,⟨fk aOI Tryz.func178,⟨fk aJ3 Tryz.func172,⟨fk aHT Tryz.func169,⟨fk aLp Tryz.func168,⟨fk aIL Tryz.func167,⟨⟩,⟨⟩⟩,⟨⟩⟩,⟨fk aIv Tryz.func171,⟨fk aGA Tryz.func170,⟨⟩,⟨⟩⟩,⟨⟩⟩⟩,⟨fk aNU Tryz.func175,⟨fk aD5 Tryz.func174,⟨fk aJx Tryz.func173,⟨⟩,⟨⟩⟩,⟨⟩⟩,⟨fk aQ2 Tryz.func177,⟨fk aQ1 Tryz.func176,⟨⟩,⟨⟩⟩,⟨⟩⟩⟩⟩,⟨fk aRJ Tryz.func184,⟨fk aRi Tryz.func181,⟨fk aOM Tryz.func180,⟨fk aP6 Tryz.func179,⟨⟩,⟨⟩⟩,⟨⟩⟩,⟨fk aJd Tryz.func183,⟨fk aOW Tryz.func182,⟨⟩,⟨⟩⟩,⟨⟩⟩⟩,⟨fk aSe Tryz.func187,⟨fk aUc Tryz.func186,⟨fk aPq Tryz.func185,⟨⟩,⟨⟩⟩,⟨⟩⟩,⟨fk aTS Tryz.func188,⟨⟩,⟨⟩⟩⟩⟩⟩,⟨fk KV Tryz.func200,⟨fk aEG Tryz.func195,⟨fk aHa Tryz.func192,⟨fk aAS Tryz.func191,⟨fk aF0 Tryz.func190,⟨⟩,⟨⟩⟩,⟨⟩⟩,⟨fk aHm Tryz.func194,⟨fk aFh Tryz.func193,⟨⟩,⟨⟩⟩,⟨⟩⟩⟩,⟨fk aLh Tryz.func198,⟨fk aFu Tryz.func197,⟨fk aJu Tryz.func196,⟨⟩,⟨⟩⟩,⟨⟩⟩,⟨fk aHH Tryz.func199,⟨⟩,⟨⟩⟩⟩⟩,⟨fk aGw Tryz.func206,⟨fk aJD Tryz.func203,⟨fk aHq Tryz.func202,⟨fk aI2 Tryz.func201,⟨⟩,⟨⟩⟩,⟨⟩⟩,⟨fk aKq Tryz.func205,⟨fk aI4 Tryz.func204,⟨⟩,⟨⟩⟩,⟨⟩⟩⟩,⟨fk aGO Tryz.func209,⟨fk aFw Tryz.func208,⟨fk aJU Tryz.func207,⟨⟩,⟨⟩⟩,⟨⟩⟩,⟨fk aGK Tryz.func210,⟨⟩,⟨⟩⟩⟩⟩⟩⟩⟩⟩,⟨fk aKt Tryz.func308,⟨fk aIV Tryz.func259,⟨fk aK8 Tryz.func236,⟨fk aKx Tryz.func225,⟨fk aDQ Tryz.func219,⟨fk aOR Tryz.func214,⟨fk aPl Tryz.func213,⟨fk aQp Tryz.func212,⟨⟩,⟨⟩⟩,⟨⟩⟩,⟨fk aTL Tryz.func216,⟨fk aOF Tryz.func215,⟨⟩,⟨⟩⟩,⟨⟩⟩⟩,⟨fk aKp Tryz.func222,⟨fk aKv Tryz.func221,⟨fk aKs Tryz.func220,⟨⟩,⟨⟩⟩,⟨⟩⟩,⟨fk aGm Tryz.func224,⟨fk aCH Tryz.func223,⟨⟩,⟨⟩⟩,⟨⟩⟩⟩⟩,⟨fk aIx Tryz.func231,⟨fk YQ Tryz.func228,⟨fk aEI Tryz.func227,⟨fk aIE Tryz.func226,⟨⟩,⟨⟩⟩,⟨⟩⟩,⟨fk aJL Tryz.func230,⟨fk aJv Tryz.func229,⟨⟩,⟨⟩⟩,⟨⟩⟩⟩,⟨fk aSj Tryz.func234,⟨fk aQb Tryz.func233,⟨fk JZ Tryz.func232,⟨⟩,⟨⟩⟩,⟨⟩⟩,⟨fk aQK Tryz.func235,⟨⟩,⟨⟩⟩⟩⟩⟩,⟨fk aLt Tryz.func248,⟨fk aKK Tryz.func242,⟨fk aLc Tryz.func239,⟨fk aGD Tryz.func238,⟨fk aKG Tryz.func237,⟨⟩,⟨⟩⟩,⟨⟩⟩,⟨fk aHe Tryz.func241,⟨fk aIC Tryz.func240,⟨⟩,⟨⟩⟩,⟨⟩⟩⟩,⟨fk aJs Tryz.func245,⟨fk aFj Tryz.func244,⟨fk aGW Tryz.func243,⟨⟩,⟨⟩⟩,⟨⟩⟩,⟨fk aKd Tryz.func247,⟨fk aJb Tryz.func246,⟨⟩,⟨⟩⟩,⟨⟩⟩⟩⟩,⟨fk aJ9 Tryz.func254,⟨fk aJn Tryz.func251,⟨fk aHN Tryz.func250,⟨fk aBy Tryz.func249,⟨⟩,⟨⟩⟩,⟨⟩⟩,⟨fk Y8 Tryz.func253,⟨fk YB Tryz.func252,⟨⟩,⟨⟩⟩,⟨⟩⟩⟩,⟨fk aIM Tryz.func257,⟨fk aE5 Tryz.func256,⟨fk aCw Tryz.func255,⟨⟩,⟨⟩⟩,⟨⟩⟩,⟨fk aLe Tryz.func258,⟨⟩,⟨⟩⟩⟩⟩⟩⟩,⟨fk VN Tryz.func282,⟨fk aGp Tryz.func271,⟨fk aIZ Tryz.func265,⟨fk aLs Tryz.func262,⟨fk aJV Tryz.func261,⟨fk aFE Tryz.func260,⟨⟩,⟨⟩⟩,⟨⟩⟩,⟨fk aCJ Tryz.func264,⟨fk aBE Tryz.func263,⟨⟩,⟨⟩⟩,⟨⟩⟩⟩,⟨fk aRv Tryz.func268,⟨fk aJq Tryz.func267,⟨fk aFZ Tryz.func266,⟨⟩,⟨⟩⟩,⟨⟩⟩,⟨fk aLd Tryz.func270,⟨fk aSw Tryz.func269,⟨⟩,⟨⟩⟩,⟨⟩⟩⟩⟩,⟨fk aSc Tryz.func277,⟨fk aR5 Tryz.func274,⟨fk aUg Tryz.func273,⟨fk aPb Tryz.func272,⟨⟩,⟨⟩⟩,⟨⟩⟩,⟨fk aRw Tryz.func276,⟨fk aUT Tryz.func275,⟨⟩,⟨⟩⟩,⟨⟩⟩⟩,⟨fk aIc Tryz.func280,⟨fk VX Tryz.func279,⟨fk aSX Tryz.func278,⟨⟩,⟨⟩⟩,⟨⟩⟩,⟨fk aAu Tryz.func281,⟨⟩,⟨⟩⟩⟩⟩⟩,⟨fk aRK Tryz.func296,⟨fk XP Tryz.func291,⟨fk YT Tryz.func285,⟨fk aI8 Tryz.func284,⟨fk aJX Tryz.func283,⟨⟩,⟨⟩⟩,⟨⟩⟩,⟨fk aQv Tryz.func287,⟨fk F4 Tryz.func286,⟨⟩,⟨⟩⟩,⟨⟩⟩⟩,⟨fk aHz Tryz.func294,⟨fk aKJ Tryz.func293,⟨fk aEg Tryz.func292,⟨⟩,⟨⟩⟩,⟨⟩⟩,⟨fk aDE Tryz.func295,⟨⟩,⟨⟩⟩⟩⟩,⟨fk aPv Tryz.func303,⟨fk aKF Tryz.func299,⟨fk aK7 Tryz.func298,⟨fk aFG Tryz.func297,⟨⟩,⟨⟩⟩,⟨⟩⟩,⟨fk aGT Tryz.func302,⟨fk aF6 Tryz.func300,⟨⟩,⟨⟩⟩,⟨⟩⟩⟩,⟨fk aFM Tryz.func306,⟨fk aJT Tryz.func305,⟨fk aIP Tryz.func304,⟨⟩,⟨⟩⟩,⟨⟩⟩,⟨fk aGe Tryz.func307,⟨⟩,⟨⟩⟩⟩⟩⟩⟩⟩,⟨fk aOO Tryz.func354,⟨fk aFs Tryz.func331,⟨fk aIg Tryz.func320,⟨fk aFW Tryz.func314,⟨fk aHt Tryz.func311,⟨fk aGP Tryz.func310,⟨fk aGx Tryz.func309,⟨⟩,⟨⟩⟩,⟨⟩⟩,⟨fk aFX Tryz.func313,⟨fk aF9 Tryz.func312,⟨⟩,⟨⟩⟩,⟨⟩⟩⟩,⟨fk aIQ Tryz.func317,⟨fk aKX Tryz.func316,⟨fk aIn Tryz.func315,⟨⟩,⟨⟩⟩,⟨⟩⟩,⟨fk aHV Tryz.func319,⟨fk aGL Tryz.func318,⟨⟩,⟨⟩⟩,⟨⟩⟩⟩⟩,⟨fk aRG Tryz.func326,⟨fk aBs Tryz.func323,⟨fk aGC Tryz.func322,⟨fk aKL Tryz.func321,⟨⟩,⟨⟩⟩,⟨⟩⟩,⟨fk aSF Tryz.func325,⟨fk aKi Tryz.func324,⟨⟩,⟨⟩⟩,⟨⟩⟩⟩,⟨fk aR0 Tryz.func329,⟨fk XZ Tryz.func328,⟨fk aJB Tryz.func327,⟨⟩,⟨⟩⟩,⟨⟩⟩,⟨fk aCz Tryz.func330,⟨⟩,⟨⟩⟩⟩⟩⟩,⟨fk aH8 Tryz.func343,⟨fk aG8 Tryz.func337,⟨fk aKh Tryz.func334,⟨fk aEC Tryz.func333,⟨fk aS3 Tryz.func332,⟨⟩,⟨⟩⟩,⟨⟩⟩,⟨fk aHP Tryz.func336,⟨fk aDn Tryz.func335,⟨⟩,⟨⟩⟩,⟨⟩⟩⟩,⟨fk aFi Tryz.func340,⟨fk aLo Tryz.func339,⟨fk aLi Tryz.func338,⟨⟩,⟨⟩⟩,⟨⟩⟩,⟨fk aJc Tryz.func342,⟨fk aER Tryz.func341,⟨⟩,⟨⟩⟩,⟨⟩⟩⟩⟩,⟨fk aUG Tryz.func349,⟨fk aJP Tryz.func346,⟨fk aLg Tryz.func345,⟨fk aEV Tryz.func344,⟨⟩,⟨⟩⟩,⟨⟩⟩,⟨fk aHL Tryz.func348,⟨fk aUr Tryz.func347,⟨⟩,⟨⟩⟩,⟨⟩⟩⟩,⟨fk aLj Tryz.func352,⟨fk aKr Tryz.func351,⟨fk aUt Tryz.func350,⟨⟩,⟨⟩⟩,⟨⟩⟩,⟨fk aBz Tryz.func353,⟨⟩,⟨⟩⟩⟩⟩⟩⟩,⟨fk ZA Tryz.func377,⟨fk aHw Tryz.func366,⟨fk aKO Tryz.func360,⟨fk aEP Tryz.func357,⟨fk aFp Tryz.func356,⟨fk aIT Tryz.func355,⟨⟩,⟨⟩⟩,⟨⟩⟩,⟨fk aFa Tryz.func359,⟨fk aI9 Tryz.func358,⟨⟩,⟨⟩⟩,⟨⟩⟩⟩,⟨fk aHs Tryz.func363,⟨fk aHK Tryz.func362,⟨fk aI3 Tryz.func361,⟨⟩,⟨⟩⟩,⟨⟩⟩,⟨fk aIl Tryz.func365,⟨fk aK1 Tryz.func364,⟨⟩,⟨⟩⟩,⟨⟩⟩⟩⟩,⟨fk aHu Tryz.func372,⟨fk Y2 Tryz.func369,⟨fk aGS Tryz.func368,⟨fk aFQ Tryz.func367,⟨⟩,⟨⟩⟩,⟨⟩⟩,⟨fk aHl Tryz.func371,⟨fk aJI Tryz.func370,⟨⟩,⟨⟩⟩,⟨⟩⟩⟩,⟨fk aCS Tryz.func375,⟨fk aNf Tryz.func374,⟨fk aHX Tryz.func373,⟨⟩,⟨⟩⟩,⟨⟩⟩,⟨fk aB3 Tryz.func376,⟨⟩,⟨⟩⟩⟩⟩⟩,⟨fk YV Tryz.func388,⟨fk aGa Tryz.func383,⟨fk aIR Tryz.func380,⟨fk aPa Tryz.func379,⟨fk VS Tryz.func378,⟨⟩,⟨⟩⟩,⟨⟩⟩,⟨fk aK5 Tryz.func382,⟨fk aEB Tryz.func381,⟨⟩,⟨⟩⟩,⟨⟩⟩⟩,⟨fk aNK Tryz.func386,⟨fk aFm Tryz.func385,⟨fk aGE Tryz.func384,⟨⟩,⟨⟩⟩,⟨⟩⟩,⟨fk aRz Tryz.func387,⟨⟩,⟨⟩⟩⟩⟩,⟨fk aLv Tryz.func394,⟨fk aFN Tryz.func391,⟨fk aJp Tryz.func390,⟨fk aI7 Tryz.func389,⟨⟩,⟨⟩⟩,⟨⟩⟩,⟨fk aGr Tryz.func393,⟨fk V6 Tryz.func392,⟨⟩,⟨⟩⟩,⟨⟩⟩⟩,⟨fk aCj Tryz.func397,⟨fk aKA Tryz.func396,⟨fk aE9 Tryz.func395,⟨⟩,⟨⟩⟩,⟨⟩⟩,⟨fk ZU Tryz.func398,⟨⟩,⟨⟩⟩⟩⟩⟩⟩⟩⟩⟩ aAT (aCt)
theorem NT:Cz.B 104=some OI.fn:=by rfl
theorem N8:Cz.B 106=some LW.fn:=by rfl
theorem aMl:Cz.T 65=some HH.t:=by rfl
theorem aWa:Cz.T 77=some J2.t:=by rfl
theorem aBr:Cz.T 118=some vS.t:=by rfl
theorem aT8:Cz.T 226=some vQ.t:=by rfl
def rC(f:FuncId):Bool:=Nat.beq f 104||Nat.beq f 106
def vV(f:FuncId)(zs:List A):Option A:=bif rC f then(match zs with|[.sl 0 []]=>some (.sl 0 [])|_=>none)else aDA f zs
theorem OG(f:FuncId)(hf:rC f=true)(c:Nat):EvQ Cz f [.v (.slice none 0 c)] (.sl 0 []):=by simp only[rC,Bool.or_eq_true]at hf;rcases hf with h|h;{obtain rfl:=Nat.eq_of_beq_eq_true h;refine evF NT ?_;simp(disch:=omega)only[go_sem,simprocAttr,aBr,vS,tM,vH,OI]};{obtain rfl:=Nat.eq_of_beq_eq_true h;refine evF N8 ?_;simp(disch:=omega)only[go_sem,simprocAttr,aMl,HH,tM,vH,LW]}
theorem NY(f:FuncId)(hf:rC f=true)(a:Addr)(c:Nat):EvQ Cz f [.v (.slice (some a) 0 c)] (.sl 0 []):=by simp only[rC,Bool.or_eq_true]at hf;rcases hf with h|h;{obtain rfl:=Nat.eq_of_beq_eq_true h;refine evF NT ?_;simp(disch:=omega)only[go_sem,simprocAttr,aBr,vS,aT8,vQ,tM,vH,OI]};{obtain rfl:=Nat.eq_of_beq_eq_true h;refine evF N8 ?_;simp(disch:=omega)only[go_sem,simprocAttr,aMl,HH,aWa,J2,tM,vH,LW]}
theorem aEm:QOk Cz.T Tryz.prog vV:=by intro f zs r h;unfold vV at h;cases hb:rC f with|false=>rw[hb,cond_false]at h;exact D9.ext f zs r h|true=>rw[hb,cond_true]at h;split at h;{simp only[Option.some.injEq]at h;subst h;(have hent:uG Tryz.prog f:=by simp only[rC,Bool.or_eq_true]at hb;rcases hb with h|h;{obtain rfl:=Nat.eq_of_beq_eq_true h;exact D9.enters NT};{obtain rfl:=Nat.eq_of_beq_eq_true h;exact D9.enters N8});refine .inr ⟨hent,fun own w ys ho hgl hr=>?_⟩;(obtain⟨y,ys',rfl,hy,hn⟩:∃y ys',ys=y::ys'/\R [] own w (.sl 0 []) y/\RL [] own w [] ys':=by rw[RL]at hr;obtain⟨y,ys',e,h1,h2⟩:=hr;exact⟨y,ys',e,h1,h2⟩);(have key:∀a c,y=.slice a 0 c->EvQ Cz f [.v (.slice a 0 c)] (.sl 0 []):=fun a c _=>by cases a with|none=>exact OG f hb c|some a=>exact NY f hb a c);(have fin:∀a c,y=.slice a 0 c->Go.Calls Tryz.prog f (y::ys').toArray w fun e w'=>∃v,e=.returned v/\Grow w w'/\R [] own w' (.sl 0 []) v:=fun a c e=>by subst e;obtain⟨N,hN⟩:=key a c rfl;rcases(iY D9 N).1 f _ _ hN with h|⟨-,h⟩;{obtain⟨v,h1,-⟩:=h [] own w _ (RL.cons (by rw[R]) hn);rw[hent]at h1;simp at h1};{exact h own w _ ho hgl (RL.cons (by rw[R]) hn)});rw[R]at hy;rcases hy with⟨-,-,a,c,rfl⟩|⟨g,off,cap,xs,rfl,h0,-⟩;{exact fin _ _ rfl};{exact fin _ _ rfl}};{cases h}
def Cy:Ctx:=⟨Cz.T,Cz.B,vV,Cz.XO⟩
theorem rJ:kR Tryz.prog Cy:=⟨D9.mixed,D9.types,D9.loops,D9.fns,aEm,D9.extO⟩
noncomputable def aBn(f:FuncId):Option (List A->aE->Option (A×aE)):=bif Nat.beq f 301 then some (pZ Cy)else SG f
theorem aDw:∀f g zs H x H',aBn f=some g->g zs H=some (x,H')->pT Cy.T Tryz.prog f zs H x H':=by intro f g zs H x H' hg h;unfold aBn at hg;cases h1:Nat.beq f 301 with|true=>obtain rfl:=Nat.eq_of_beq_eq_true h1;rw[h1,cond_true]at hg;obtain rfl:=Option.some.inj hg;exact WQ rJ h|false=>rw[h1,cond_false]at hg;exact rJ.extO f g zs H x H' hg h
noncomputable def Cx:Ctx:=⟨Cy.T,Cy.B,Cy.X,aBn⟩
theorem aCv:kR Tryz.prog Cx:=⟨rJ.mixed,rJ.types,rJ.loops,rJ.fns,rJ.ext,aDw⟩
theorem aST:Cy.B 249=some aBy.fn:=by rfl
theorem a0y:m9 Cy 249=true:=by rfl
theorem aOk:Cy.B 251=some aJn.fn:=by rfl
theorem aZV:m9 Cy 251=true:=by rfl
theorem a0X:Cx.T 1=some th1.t:=by rfl
theorem a0F:Cx.T 3=some th3.t:=by rfl
theorem a00:Cx.T 4=some th4.t:=by rfl
theorem a0D:Cx.T 5=some th5.t:=by rfl
theorem aZ5:Cx.T 9=some th9.t:=by rfl
theorem aWL:Cx.T 20=some aHx.t:=by rfl
theorem aWH:Cx.T 22=some aKU.t:=by rfl
theorem aVP:Cx.T 23=some aEu.t:=by rfl
theorem aY5:Cx.T 24=some aHW.t:=by rfl
theorem aZC:Cx.T 25=some aGu.t:=by rfl
theorem aXm:Cx.T 27=some aHC.t:=by rfl
theorem aXG:Cx.T 29=some aH6.t:=by rfl
theorem aVl:Cx.T 31=some aIY.t:=by rfl
theorem aXU:Cx.T 33=some aJl.t:=by rfl
theorem aYa:Cx.T 34=some aGd.t:=by rfl
theorem aZc:Cx.T 36=some aKj.t:=by rfl
theorem aYO:Cx.T 37=some aIA:=by rfl
theorem aYV:Cx.T 38=some aHD:=by rfl
theorem aZw:Cx.T 39=some aH2.t:=by rfl
theorem aXY:Cx.T 40=some aGX:=by rfl
theorem aYx:Cx.T 42=some aG5:=by rfl
theorem aYr:Cx.T 44=some aKy:=by rfl
theorem aWD:Cx.T 45=some aH4.t:=by rfl
theorem aWY:Cx.T 46=some aLq.t:=by rfl
theorem aYG:Cx.T 48=some aHR.t:=by rfl
theorem aWx:Cx.T 49=some aIy.t:=by rfl
theorem aU2:Cx.T 51=some aHQ.t:=by rfl
theorem aW0:Cx.T 54=some aCi.t:=by rfl
theorem aVW:Cx.T 55=some aCM.t:=by rfl
theorem aWm:Cx.T 56=some aG4.t:=by rfl
theorem aWp:Cx.T 57=some aGh.t:=by rfl
theorem aX7:Cx.T 59=some aE7.t:=by rfl
theorem aVq:Cx.T 60=some aJ1.t:=by rfl
theorem aXL:Cx.T 61=some aK6.t:=by rfl
theorem aVE:Cx.T 63=some YW.t:=by rfl
theorem aXv:Cx.T 64=some aEy:=by rfl
theorem aY4:Cx.T 65=some HH.t:=by rfl
theorem aXM:Cx.T 67=some aFl.t:=by rfl
theorem aWv:Cx.T 73=some aIB.t:=by rfl
theorem aYE:Cx.T 77=some J2.t:=by rfl
theorem aVm:Cx.T 79=some aH9.t:=by rfl
theorem aYX:Cx.T 83=some aJS.t:=by rfl
theorem aYF:Cx.T 88=some aHU.t:=by rfl
theorem aVS:Cx.T 95=some aI6.t:=by rfl
theorem aZx:Cx.T 97=some aGq.t:=by rfl
theorem aWz:Cx.T 99=some aFF.t:=by rfl
theorem aRp:Cx.T 102=some Q9.t:=by rfl
theorem aNk:Cx.T 106=some R9.t:=by rfl
theorem aTm:Cx.T 108=some SH.t:=by rfl
theorem aUh:Cx.T 110=some RY.t:=by rfl
theorem aN4:Cx.T 111=some TN.t:=by rfl
theorem aUH:Cx.T 113=some QM.t:=by rfl
theorem aUd:Cx.T 116=some TW.t:=by rfl
theorem aNN:Cx.T 117=some QH.t:=by rfl
theorem aRZ:Cx.T 118=some vS.t:=by rfl
theorem aQa:Cx.T 120=some BU.t:=by rfl
theorem aRO:Cx.T 122=some RH.t:=by rfl
theorem aSR:Cx.T 124=some AP.t:=by rfl
theorem aRR:Cx.T 125=some AL:=by rfl
theorem aPT:Cx.T 126=some PT:=by rfl
theorem aS2:Cx.T 128=some B8.t:=by rfl
theorem aO0:Cx.T 129=some US.t:=by rfl
theorem aRW:Cx.T 131=some SF.t:=by rfl
theorem aQt:Cx.T 133=some BJ:=by rfl
theorem aTP:Cx.T 139=some PW.t:=by rfl
theorem aSk:Cx.T 145=some PY.t:=by rfl
theorem aOu:Cx.T 146=some QY.t:=by rfl
theorem aT6:Cx.T 148=some R7.t:=by rfl
theorem aSu:Cx.T 149=some RD.t:=by rfl
theorem aR2:Cx.T 153=some U0.t:=by rfl
theorem aPh:Cx.T 155=some O8.t:=by rfl
theorem aTr:Cx.T 159=some PB.t:=by rfl
theorem aSz:Cx.T 162=some PG.t:=by rfl
theorem aSK:Cx.T 163=some RR.t:=by rfl
theorem aTa:Cx.T 164=some RJ.t:=by rfl
theorem aS5:Cx.T 165=some UQ.t:=by rfl
theorem aUk:Cx.T 166=some T8.t:=by rfl
theorem aRa:Cx.T 186=some O4.t:=by rfl
theorem aPY:Cx.T 196=some RU.t:=by rfl
theorem aPp:Cx.T 205=some QG.t:=by rfl
theorem aN1:Cx.T 212=some R5.t:=by rfl
theorem aNc:Cx.T 213=some JI.t:=by rfl
theorem aPr:Cx.T 215=some TO.t:=by rfl
theorem aUl:Cx.T 226=some vQ.t:=by rfl
theorem aPK:Cx.T 235=some UC.t:=by rfl
theorem aR9:Cx.T 237=some SN.t:=by rfl
theorem aRY:Cx.T 239=some TA.t:=by rfl
theorem aT2:Cx.T 241=some Q4.t:=by rfl
theorem aUL:Cx.T 242=some RP.t:=by rfl
theorem aOA:Cx.T 244=some UF.t:=by rfl
theorem aQJ:Cx.T 245=some OZ.t:=by rfl
theorem aRs:Cx.T 247=some IR.t:=by rfl
theorem aSP:Cx.T 248=some O7.t:=by rfl
theorem aTv:Cx.T 249=some UN.t:=by rfl
theorem aUf:Cx.T 252=some T7.t:=by rfl
theorem aPA:Cx.T 254=some U9.t:=by rfl
theorem aOZ:Cx.T 257=some TR.t:=by rfl
theorem aNW:Cx.T 264=some UW.t:=by rfl
theorem aS6:Cx.T 273=some QL.t:=by rfl
theorem aOx:Cx.T 275=some UB.t:=by rfl
theorem aNz:Cx.T 277=some TY.t:=by rfl
theorem aSU:Cx.T 278=some PP.t:=by rfl
theorem aTq:Cx.T 283=some UJ.t:=by rfl
theorem aPH:Cx.T 285=some Q3.t:=by rfl
theorem aTR:Cx.T 287=some UI.t:=by rfl
theorem aNb:Cx.T 314=some PQ.t:=by rfl
theorem aSv:Cx.T 315=some S9.t:=by rfl
theorem aOh:Cx.T 316=some RX.t:=by rfl
theorem aTB:Cx.T 318=some QR.t:=by rfl
theorem aRj:Cx.T 320=some PE.t:=by rfl
theorem aTo:Cx.T 321=some UT.t:=by rfl
theorem aTi:Cx.T 336=some RB.t:=by rfl
theorem aPG:Cx.T 337=some T4.t:=by rfl
theorem aT4:Cx.T 340=some QQ.t:=by rfl
theorem aM3:Cx.T 342=some OY.t:=by rfl
theorem aON:Cx.T 344=some RT.t:=by rfl
theorem aQq:Cx.T 345=some RN.t:=by rfl
theorem aOX:Cx.T 348=some IK.t:=by rfl
theorem aOm:Cx.T 349=some SC.t:=by rfl
theorem aQf:Cx.T 351=some T6.t:=by rfl
theorem aQy:Cx.T 352=some QS.t:=by rfl
theorem aQo:Cx.T 353=some PX.t:=by rfl
theorem aQZ:Cx.T 355=some JR.t:=by rfl
theorem aNi:Cx.T 356=some P5.t:=by rfl
theorem aQU:Cx.T 357=some R6.t:=by rfl
theorem aSI:Cx.T 364=some Q0.t:=by rfl
theorem aUs:Cx.T 365=some SD.t:=by rfl
theorem aUq:Cx.T 371=some TM.t:=by rfl
theorem aRh:Cx.T 374=some TT.t:=by rfl
theorem aM9:Cx.T 375=some SP.t:=by rfl
theorem aUu:Cx.T 376=some PD.t:=by rfl
theorem aO6:Cx.T 377=some UD.t:=by rfl
theorem aPj:Cx.T 388=some RM.t:=by rfl
theorem aPL:Cx.T 391=some PH.t:=by rfl
theorem aNH:Cx.T 397=some QN.t:=by rfl
theorem aP2:Cx.T 403=some O9.t:=by rfl
theorem aOQ:Cx.T 405=some T5.t:=by rfl
theorem aOG:Cx.T 412=some OQ.t:=by rfl
theorem aUK:Cx.T 424=some SO.t:=by rfl
theorem aRE:Cx.T 427=some OV.t:=by rfl
theorem aR3:Cx.T 429=some QC.t:=by rfl
theorem aUW:Cx.T 431=some U1.t:=by rfl
theorem aTC:Cx.T 432=some R8.t:=by rfl
theorem aS9:Cx.T 435=some PZ.t:=by rfl
theorem aSi:Cx.T 436=some TD.t:=by rfl
theorem aOK:Cx.T 438=some P9.t:=by rfl
theorem aUO:Cx.T 440=some OR.t:=by rfl
theorem aOq:Cx.T 442=some PU.t:=by rfl
theorem aM6:Cx.T 449=some TX.t:=by rfl
theorem aQ0:Cx.T 450=some RC.t:=by rfl
theorem aTQ:Cx.T 453=some P6.t:=by rfl
theorem aSn:Cx.T 454=some PO.t:=by rfl
theorem aND:Cx.T 455=some Q7.t:=by rfl
theorem aUI:Cx.T 460=some P7.t:=by rfl
theorem aTl:Cx.T 462=some TE.t:=by rfl
theorem aS0:Cx.T 467=some TC.t:=by rfl
theorem aQV:Cx.T 471=some RE.t:=by rfl
theorem aTt:Cx.T 479=some UK:=by rfl
theorem aM4:Cx.T 480=some S7.t:=by rfl
theorem aRg:Cx.T 485=some TF.t:=by rfl
theorem aUF:Cx.T 491=some QO.t:=by rfl
theorem aUy:Cx.T 493=some U3.t:=by rfl
theorem aNX:Cx.T 496=some TH.t:=by rfl
theorem aPD:Cx.T 500=some T9.t:=by rfl
abbrev XB(f:FuncId)(m:MFn):Prop:=Cx.B f=some m
theorem aWj:XB 5 g5.fn:=by rfl
theorem a0Q:XB 8 g8.fn:=by rfl
theorem aMv:XB 10 g10.fn:=by rfl
theorem aLQ:XB 11 g11.fn:=by rfl
theorem aXH:XB 13 g13.fn:=by rfl
theorem aXx:XB 14 g14.fn:=by rfl
theorem aMF:XB 17 g17.fn:=by rfl
theorem aWf:XB 18 g18.fn:=by rfl
theorem aAy:XB 20 g20.fn:=by rfl
theorem aU5:XB 21 g21.fn:=by rfl
theorem aCI:XB 22 g22.fn:=by rfl
theorem aVp:XB 23 g23.fn:=by rfl
theorem aV0:XB 28 g28.fn:=by rfl
theorem aAZ:XB 30 g30.fn:=by rfl
theorem aXO:XB 32 g32.fn:=by rfl
theorem aYQ:XB 34 g34.fn:=by rfl
theorem aU1:XB 35 g35.fn:=by rfl
theorem aVz:XB 36 g36.fn:=by rfl
theorem aXi:XB 37 g37.fn:=by rfl
theorem aXT:XB 38 g38.fn:=by rfl
theorem aYi:XB 39 g39.fn:=by rfl
theorem aYe:XB 40 g40.fn:=by rfl
theorem aW7:XB 41 g41.fn:=by rfl
theorem aXe:XB 42 g42.fn:=by rfl
theorem aWi:XB 43 g43.fn:=by rfl
theorem BA:XB 44 g44.fn:=by rfl
theorem aXK:XB 48 g48.fn:=by rfl
theorem aVD:XB 49 g49.fn:=by rfl
theorem aMu:XB 50 g50.fn:=by rfl
theorem aVg:XB 51 g51.fn:=by rfl
theorem aW3:XB 53 g53.fn:=by rfl
theorem aXN:XB 54 g54.fn:=by rfl
theorem aL8:XB 55 g55.fn:=by rfl
theorem aYZ:XB 56 g56.fn:=by rfl
theorem aXc:XB 57 g57.fn:=by rfl
theorem aXn:XB 58 g58.fn:=by rfl
theorem aWN:XB 60 g60.fn:=by rfl
theorem aVk:XB 67 g67.fn:=by rfl
theorem aZk:XB 69 g69.fn:=by rfl
theorem aXo:XB 70 g70.fn:=by rfl
theorem aW1:XB 71 g71.fn:=by rfl
theorem aU6:XB 72 g72.fn:=by rfl
theorem aMo:XB 73 g73.fn:=by rfl
theorem aVn:XB 74 g74.fn:=by rfl
theorem aZL:XB 75 g75.fn:=by rfl
theorem aZy:XB 76 g76.fn:=by rfl
theorem aXq:XB 77 g77.fn:=by rfl
theorem aWQ:XB 78 g78.fn:=by rfl
theorem aYS:XB 79 g79.fn:=by rfl
theorem aWU:XB 80 g80.fn:=by rfl
theorem aXE:XB 81 g81.fn:=by rfl
theorem aLJ:XB 82 g82.fn:=by rfl
theorem aY6:XB 83 g83.fn:=by rfl
theorem aYg:XB 84 g84.fn:=by rfl
theorem HW:XB 85 g85.fn:=by rfl
theorem aYq:XB 86 g86.fn:=by rfl
theorem aY7:XB 87 g87.fn:=by rfl
theorem aMw:XB 88 g88.fn:=by rfl
theorem aXz:XB 89 g89.fn:=by rfl
theorem aXB:XB 97 g97.fn:=by rfl
theorem aLT:XB 98 g98.fn:=by rfl
theorem aVt:XB 99 g99.fn:=by rfl
theorem aUR:XB 100 aF4.fn:=by rfl
theorem aRx:XB 101 V5.fn:=by rfl
theorem aDu:XB 102 aJ0.fn:=by rfl
theorem aQg:XB 103 aGl.fn:=by rfl
theorem aQM:XB 104 OI.fn:=by rfl
theorem aRS:XB 105 aIp.fn:=by rfl
theorem aNV:XB 106 LW.fn:=by rfl
theorem rG:XB 107 aKa.fn:=by rfl
theorem aBI:XB 108 aEA.fn:=by rfl
theorem aEq:XB 109 aGc.fn:=by rfl
theorem aOL:XB 110 aJ6.fn:=by rfl
theorem aPX:XB 111 aIb.fn:=by rfl
theorem aNm:XB 112 Z9.fn:=by rfl
theorem aT9:XB 113 aFt.fn:=by rfl
theorem aSJ:XB 114 aFD.fn:=by rfl
theorem aO4:XB 115 aKQ.fn:=by rfl
theorem aPJ:XB 116 aHI.fn:=by rfl
theorem aSQ:XB 117 aGZ.fn:=by rfl
theorem aUx:XB 118 aE2.fn:=by rfl
theorem aQE:XB 119 aFR.fn:=by rfl
theorem aSN:XB 120 aFL.fn:=by rfl
theorem aTc:XB 121 aGR.fn:=by rfl
theorem aTM:XB 122 aCd.fn:=by rfl
theorem aDh:XB 123 aHY.fn:=by rfl
theorem aCe:XB 124 aIN.fn:=by rfl
theorem aTN:XB 125 aII.fn:=by rfl
theorem aQB:XB 126 aHF.fn:=by rfl
theorem aNF:XB 145 aDG.fn:=by rfl
theorem aUb:XB 146 aKS.fn:=by rfl
theorem aRV:XB 147 aDx.fn:=by rfl
theorem aOJ:XB 148 aEx.fn:=by rfl
theorem aUQ:XB 149 aG7.fn:=by rfl
theorem FT:XB 150 aIU.fn:=by rfl
theorem aMZ:XB 151 aGI.fn:=by rfl
theorem aRf:XB 152 aF8.fn:=by rfl
theorem aSb:XB 153 aIW.fn:=by rfl
theorem aT1:XB 154 aGU.fn:=by rfl
theorem aSB:XB 155 aHf.fn:=by rfl
theorem aCY:XB 156 aH7.fn:=by rfl
theorem aNA:XB 157 aJ2.fn:=by rfl
theorem aNR:XB 158 aLr.fn:=by rfl
theorem aSr:XB 159 aIo.fn:=by rfl
theorem aPd:XB 160 KM.fn:=by rfl
theorem aDR:XB 161 aLy.fn:=by rfl
theorem aM7:XB 162 aFV.fn:=by rfl
theorem aMV:XB 163 Y0.fn:=by rfl
theorem aM1:XB 164 aGY.fn:=by rfl
theorem aNj:XB 165 aKz.fn:=by rfl
theorem aUa:XB 166 aEw.fn:=by rfl
theorem aUX:XB 167 aIL.fn:=by rfl
theorem aOT:XB 168 aLp.fn:=by rfl
theorem aTF:XB 169 aHT.fn:=by rfl
theorem aPW:XB 170 aGA.fn:=by rfl
theorem aRU:XB 171 aIv.fn:=by rfl
theorem aPS:XB 172 aJ3.fn:=by rfl
theorem aNJ:XB 173 aJx.fn:=by rfl
theorem aAD:XB 174 aD5.fn:=by rfl
theorem aRq:XB 183 aJd.fn:=by rfl
theorem aT3:XB 189 aId.fn:=by rfl
theorem aUi:XB 190 aF0.fn:=by rfl
theorem aQO:XB 191 aAS.fn:=by rfl
theorem aOv:XB 192 aHa.fn:=by rfl
theorem aPm:XB 193 aFh.fn:=by rfl
theorem aQF:XB 194 aHm.fn:=by rfl
theorem aDO:XB 195 aEG.fn:=by rfl
theorem aAH:XB 196 aJu.fn:=by rfl
theorem aTe:XB 197 aFu.fn:=by rfl
theorem aQD:XB 198 aLh.fn:=by rfl
theorem o9:XB 199 aHH.fn:=by rfl
theorem Z2:XB 200 KV.fn:=by rfl
theorem aOl:XB 201 aI2.fn:=by rfl
theorem aPc:XB 202 aHq.fn:=by rfl
theorem aO7:XB 203 aJD.fn:=by rfl
theorem aRt:XB 204 aI4.fn:=by rfl
theorem aPI:XB 205 aKq.fn:=by rfl
theorem aOo:XB 206 aGw.fn:=by rfl
theorem aOP:XB 207 aJU.fn:=by rfl
theorem aR1:XB 208 aFw.fn:=by rfl
theorem aTH:XB 209 aGO.fn:=by rfl
theorem aO1:XB 210 aGK.fn:=by rfl
theorem aSO:XB 211 aKB.fn:=by rfl
theorem aEp:XB 219 aDQ.fn:=by rfl
theorem aOa:XB 220 aKs.fn:=by rfl
theorem aNg:XB 221 aKv.fn:=by rfl
theorem aTA:XB 222 aKp.fn:=by rfl
theorem aN3:XB 223 aCH.fn:=by rfl
theorem aQ3:XB 224 aGm.fn:=by rfl
theorem aRC:XB 225 aKx.fn:=by rfl
theorem aUE:XB 226 aIE.fn:=by rfl
theorem aQC:XB 227 aEI.fn:=by rfl
theorem aNy:XB 228 YQ.fn:=by rfl
theorem aOS:XB 229 aJv.fn:=by rfl
theorem aQ8:XB 230 aJL.fn:=by rfl
theorem aSx:XB 231 aIx.fn:=by rfl
theorem aRI:XB 232 JZ.fn:=by rfl
theorem eX:XB 236 aK8.fn:=by rfl
theorem ZN:XB 237 aKG.fn:=by rfl
theorem aBl:XB 238 aGD.fn:=by rfl
theorem aSS:XB 239 aLc.fn:=by rfl
theorem aRb:XB 240 aIC.fn:=by rfl
theorem NZ:XB 241 aHe.fn:=by rfl
theorem jM:XB 242 aKK.fn:=by rfl
theorem aPM:XB 243 aGW.fn:=by rfl
theorem aUM:XB 244 aFj.fn:=by rfl
theorem aTY:XB 245 aJs.fn:=by rfl
theorem aTK:XB 246 aJb.fn:=by rfl
theorem aUS:XB 247 aKd.fn:=by rfl
theorem aN6:XB 248 aLt.fn:=by rfl
theorem aT0:XB 249 aBy.fn:=by rfl
theorem aPx:XB 250 aHN.fn:=by rfl
theorem aSd:XB 252 YB.fn:=by rfl
theorem aUe:XB 253 Y8.fn:=by rfl
theorem uX:XB 254 aJ9.fn:=by rfl
theorem aQl:XB 255 aCw.fn:=by rfl
theorem pM:XB 256 aE5.fn:=by rfl
theorem xW:XB 257 aIM.fn:=by rfl
theorem aOd:XB 258 aLe.fn:=by rfl
theorem aQh:XB 259 aIV.fn:=by rfl
theorem aPy:XB 260 aFE.fn:=by rfl
theorem aRD:XB 261 aJV.fn:=by rfl
theorem aTn:XB 262 aLs.fn:=by rfl
theorem aQN:XB 263 aBE.fn:=by rfl
theorem aP0:XB 264 aCJ.fn:=by rfl
theorem aSY:XB 265 aIZ.fn:=by rfl
theorem aTs:XB 266 aFZ.fn:=by rfl
theorem aUz:XB 267 aJq.fn:=by rfl
theorem aNh:XB 270 aLd.fn:=by rfl
theorem aO9:XB 271 aGp.fn:=by rfl
theorem aEj:XB 279 VX.fn:=by rfl
theorem aUD:XB 280 aIc.fn:=by rfl
theorem aNo:XB 281 aAu.fn:=by rfl
theorem aQ9:XB 282 VN.fn:=by rfl
theorem aEi:XB 283 aJX.fn:=by rfl
theorem aNv:XB 284 aI8.fn:=by rfl
theorem KJ:XB 285 YT.fn:=by rfl
theorem aQc:XB 286 F4.fn:=by rfl
theorem aRn:XB 291 XP.fn:=by rfl
theorem aPC:XB 292 aEg.fn:=by rfl
theorem aSq:XB 293 aKJ.fn:=by rfl
theorem aPR:XB 294 aHz.fn:=by rfl
theorem M8:XB 295 aDE.fn:=by rfl
theorem uU:XB 297 aFG.fn:=by rfl
theorem aUv:XB 298 aK7.fn:=by rfl
theorem aPO:XB 299 aKF.fn:=by rfl
theorem LH:XB 300 aF6.fn:=by rfl
theorem aRL:XB 302 aGT.fn:=by rfl
theorem aUj:XB 304 aIP.fn:=by rfl
theorem zK:XB 305 aJT.fn:=by rfl
theorem aNL:XB 306 aFM.fn:=by rfl
theorem aSD:XB 307 aGe.fn:=by rfl
theorem aNd:XB 308 aKt.fn:=by rfl
theorem aRu:XB 309 aGx.fn:=by rfl
theorem aTb:XB 310 aGP.fn:=by rfl
theorem aR6:XB 311 aHt.fn:=by rfl
theorem aSy:XB 312 aF9.fn:=by rfl
theorem aPV:XB 313 aFX.fn:=by rfl
theorem aPZ:XB 314 aFW.fn:=by rfl
theorem aR8:XB 315 aIn.fn:=by rfl
theorem aQT:XB 316 aKX.fn:=by rfl
theorem aQj:XB 317 aIQ.fn:=by rfl
theorem aQw:XB 318 aGL.fn:=by rfl
theorem aSm:XB 319 aHV.fn:=by rfl
theorem aMX:XB 320 aIg.fn:=by rfl
theorem aOH:XB 321 aKL.fn:=by rfl
theorem aTg:XB 322 aGC.fn:=by rfl
theorem aSs:XB 323 aBs.fn:=by rfl
theorem aPN:XB 324 aKi.fn:=by rfl
theorem LX:XB 327 aJB.fn:=by rfl
theorem aCT:XB 328 XZ.fn:=by rfl
theorem aO3:XB 330 aCz.fn:=by rfl
theorem aNl:XB 331 aFs.fn:=by rfl
theorem aSl:XB 333 aEC.fn:=by rfl
theorem aMY:XB 334 aKh.fn:=by rfl
theorem aTJ:XB 335 aDn.fn:=by rfl
theorem aOp:XB 336 aHP.fn:=by rfl
theorem aQx:XB 337 aG8.fn:=by rfl
theorem aUn:XB 338 aLi.fn:=by rfl
theorem aNa:XB 339 aLo.fn:=by rfl
theorem aQ5:XB 340 aFi.fn:=by rfl
theorem ZV:XB 341 aER.fn:=by rfl
theorem aM2:XB 342 aJc.fn:=by rfl
theorem aUC:XB 343 aH8.fn:=by rfl
theorem aOV:XB 344 aEV.fn:=by rfl
theorem aTp:XB 345 aLg.fn:=by rfl
theorem aP3:XB 346 aJP.fn:=by rfl
theorem aNI:XB 348 aHL.fn:=by rfl
theorem aM8:XB 351 aKr.fn:=by rfl
theorem aPg:XB 352 aLj.fn:=by rfl
theorem KI:XB 353 aBz.fn:=by rfl
theorem zM:XB 355 aIT.fn:=by rfl
theorem aTh:XB 356 aFp.fn:=by rfl
theorem aNP:XB 357 aEP.fn:=by rfl
theorem aQe:XB 358 aI9.fn:=by rfl
theorem aSE:XB 359 aFa.fn:=by rfl
theorem aRm:XB 360 aKO.fn:=by rfl
theorem aQS:XB 361 aI3.fn:=by rfl
theorem aTW:XB 362 aHK.fn:=by rfl
theorem aNT:XB 363 aHs.fn:=by rfl
theorem aOC:XB 364 aK1.fn:=by rfl
theorem aOt:XB 365 aIl.fn:=by rfl
theorem aTw:XB 366 aHw.fn:=by rfl
theorem aOc:XB 367 aFQ.fn:=by rfl
theorem aSL:XB 368 aGS.fn:=by rfl
theorem aTG:XB 369 Y2.fn:=by rfl
theorem aT7:XB 370 aJI.fn:=by rfl
theorem aCK:XB 371 aHl.fn:=by rfl
theorem aN7:XB 372 aHu.fn:=by rfl
theorem aQY:XB 373 aHX.fn:=by rfl
theorem aQz:XB 375 aCS.fn:=by rfl
theorem aQs:XB 376 aB3.fn:=by rfl
theorem aSf:XB 377 ZA.fn:=by rfl
theorem aR7:XB 378 VS.fn:=by rfl
theorem aBD:XB 380 aIR.fn:=by rfl
theorem xV:XB 381 aEB.fn:=by rfl
theorem aRT:XB 382 aK5.fn:=by rfl
theorem aTX:XB 383 aGa.fn:=by rfl
theorem aUp:XB 384 aGE.fn:=by rfl
theorem aP4:XB 385 aFm.fn:=by rfl
theorem aSh:XB 388 YV.fn:=by rfl
theorem aRM:XB 389 aI7.fn:=by rfl
theorem aP7:XB 390 aJp.fn:=by rfl
theorem aBH:XB 391 aFN.fn:=by rfl
theorem aPB:XB 392 V6.fn:=by rfl
theorem aOb:XB 393 aGr.fn:=by rfl
theorem aOB:XB 394 aLv.fn:=by rfl
theorem aM5:XB 395 aE9.fn:=by rfl
theorem aN8:XB 396 aKA.fn:=by rfl
theorem aOE:XB 397 aCj.fn:=by rfl
theorem aQX:XB 398 ZU.fn:=by rfl
theorem a0u:Cx.T.gl.tab 3=some ([.int .u8 0,.int .u8 1,.int .u8 56,.int .u8 2,.int .u8 57,.int .u8 49,.int .u8 28,.int .u8 3,.int .u8 61,.int .u8 58,.int .u8 42,.int .u8 50,.int .u8 38,.int .u8 29,.int .u8 17,.int .u8 4,.int .u8 62,.int .u8 47,.int .u8 59,.int .u8 36,.int .u8 45,.int .u8 43,.int .u8 51,.int .u8 22,.int .u8 53,.int .u8 39,.int .u8 33,.int .u8 30,.int .u8 24,.int .u8 18,.int .u8 12,.int .u8 5,.int .u8 63,.int .u8 55,.int .u8 48,.int .u8 27,.int .u8 60,.int .u8 41,.int .u8 37,.int .u8 16,.int .u8 46,.int .u8 35,.int .u8 44,.int .u8 21,.int .u8 52,.int .u8 32,.int .u8 23,.int .u8 11,.int .u8 54,.int .u8 26,.int .u8 40,.int .u8 15,.int .u8 34,.int .u8 20,.int .u8 31,.int .u8 10,.int .u8 25,.int .u8 14,.int .u8 19,.int .u8 9,.int .u8 13,.int .u8 8,.int .u8 7,.int .u8 6]:List Value):=by rfl
theorem a0N:Cx.T.gl.tab 0=some ([.int .i64 4,.int .i64 2,.int .i64 4,.int .i64 4,.int .i64 4]:List Value):=by rfl
theorem a0t:Cx.T.gl.tab 4=some ([.int .u8 0,.int .u8 35,.int .u8 38,.int .u8 29,.int .u8 7,.int .u8 7,.int .u8 15,.int .u8 32,.int .u8 92]:List Value):=by rfl
theorem aZ9:Cx.T.gl.tab 1=some ([.int .u8 0,.int .u8 96,.int .u8 96,.int .u8 104,.int .u8 96,.int .u8 104,.int .u8 145,.int .u8 147,.int .u8 145,.int .u8 144,.int .u8 190,.int .u8 146,.int .u8 160]:List Value):=by rfl
theorem a0l:Cx.T.gl.tab 2=some ([.int .u8 0,.int .u8 1,.int .u8 1,.int .u8 1,.int .u8 3,.int .u8 3,.int .u8 2,.int .u8 2,.int .u8 2,.int .u8 2,.int .u8 3,.int .u8 3,.int .u8 3]:List Value):=by rfl
abbrev PS(f:FuncId):Prop:=∀{zs:List A}{dst:Option Nat}{ms:List MOp}{st:Ev.St}{k:List It}{Q:Ex->Ev.St->Prop},kX Cx f zs dst ms st k Q↔GS Cx f (dT st.H zs) (zs.all shut) dst 0 ms st k Q
theorem a0M:PS 10:=aF rfl
theorem aZ2:PS 11:=aF rfl
theorem a0n:PS 13:=aF rfl
theorem a0Y:PS 14:=aF rfl
theorem a0q:PS 20:=aF rfl
theorem a0x:PS 21:=aF rfl
theorem aZR:PS 28:=aF rfl
theorem a0P:PS 34:=aF rfl
theorem a0L:PS 37:=aF rfl
theorem aZ4:PS 38:=aF rfl
theorem aZZ:PS 39:=aF rfl
theorem a0o:PS 40:=aF rfl
theorem a0c:PS 41:=aF rfl
theorem a0z:PS 48:=aF rfl
theorem a0J:PS 49:=aF rfl
theorem aZW:PS 50:=aF rfl
theorem aZ7:PS 55:=aF rfl
theorem aZS:PS 60:=aF rfl
theorem a0K:PS 71:=aF rfl
theorem a0g:PS 72:=aF rfl
theorem a0e:PS 73:=aF rfl
theorem aZY:PS 74:=aF rfl
theorem a0B:PS 75:=aF rfl
theorem aZ0:PS 76:=aF rfl
theorem a0d:PS 77:=aF rfl
theorem aZ6:PS 79:=aF rfl
theorem a0S:PS 87:=aF rfl
theorem a0H:PS 88:=aF rfl
theorem a0s:PS 97:=aF rfl
theorem a0i:PS 98:=aF rfl
theorem aW2:PS 100:=aF rfl
theorem aYf:PS 101:=aF rfl
theorem aYw:PS 102:=aF rfl
theorem aV4:PS 106:=aF rfl
theorem aVa:PS 108:=aF rfl
theorem aWb:PS 110:=aF rfl
theorem aX5:PS 111:=aF rfl
theorem aVJ:PS 112:=aF rfl
theorem aWh:PS 113:=aF rfl
theorem aYN:PS 126:=aF rfl
theorem aZj:PS 147:=aF rfl
theorem aWM:PS 149:=aF rfl
theorem aYz:PS 151:=aF rfl
theorem aVs:PS 153:=aF rfl
theorem aYT:PS 154:=aF rfl
theorem aWl:PS 156:=aF rfl
theorem aWk:PS 158:=aF rfl
theorem aXp:PS 159:=aF rfl
theorem aU4:PS 160:=aF rfl
theorem aYc:PS 162:=aF rfl
theorem aWE:PS 165:=aF rfl
theorem aZr:PS 166:=aF rfl
theorem aY2:PS 167:=aF rfl
theorem aXt:PS 169:=aF rfl
theorem aYb:PS 170:=aF rfl
theorem aXP:PS 174:=aF rfl
theorem aYm:PS 183:=aF rfl
theorem aX8:PS 189:=aF rfl
theorem aZa:PS 191:=aF rfl
theorem aVL:PS 192:=aF rfl
theorem aWZ:PS 193:=aF rfl
theorem aZm:PS 195:=aF rfl
theorem aVo:PS 197:=aF rfl
theorem aWJ:PS 198:=aF rfl
theorem aYA:PS 202:=aF rfl
theorem aWd:PS 221:=aF rfl
theorem aVj:PS 225:=aF rfl
theorem aVx:PS 228:=aF rfl
theorem aYM:PS 231:=aF rfl
theorem aVc:PS 233:=aF rfl
theorem aZP:PS 234:=aF rfl
theorem aWB:PS 235:=aF rfl
theorem aZt:PS 243:=aF rfl
theorem aYp:PS 246:=aF rfl
theorem aX2:PS 247:=aF rfl
theorem aU3:PS 248:=aF rfl
theorem aZK:PS 250:=aF rfl
theorem aWC:PS 256:=aF rfl
theorem aXg:PS 258:=aF rfl
theorem aVI:PS 259:=aF rfl
theorem aWg:PS 260:=aF rfl
theorem aYU:PS 261:=aF rfl
theorem aXh:PS 262:=aF rfl
theorem aVv:PS 265:=aF rfl
theorem aYy:PS 266:=aF rfl
theorem aW4:PS 267:=aF rfl
theorem aZN:PS 269:=aF rfl
theorem aZo:PS 270:=aF rfl
theorem aW8:PS 281:=aF rfl
theorem aWA:PS 284:=aF rfl
theorem aXb:PS 291:=aF rfl
theorem aXZ:PS 292:=aF rfl
theorem aYn:PS 293:=aF rfl
theorem aVK:PS 299:=aF rfl
theorem aXA:PS 303:=aF rfl
theorem aZH:PS 322:=aF rfl
theorem aYt:PS 323:=aF rfl
theorem aXk:PS 325:=aF rfl
theorem pY:PS 332:=aF rfl
theorem aZs:PS 333:=aF rfl
theorem aWR:PS 334:=aF rfl
theorem aY1:PS 335:=aF rfl
theorem aU7:PS 343:=aF rfl
theorem aVM:PS 366:=aF rfl
theorem aXy:PS 372:=aF rfl
theorem aWu:PS 382:=aF rfl
theorem aY3:PS 383:=aF rfl
theorem aVh:PS 384:=aF rfl
theorem aZe:PS 385:=aF rfl
theorem aYv:PS 392:=aF rfl
theorem aW5:PS 393:=aF rfl
theorem aYl:PS 394:=aF rfl
theorem aYP:PS 395:=aF rfl
attribute [go_sem] g5 aX6 aAW aW6 aBL g7 g8 g9 g10 aUU KW aNt K7 g11 aSp LS aSa NA g12 g13 g14 g17 aQR MO g18 aN2 KO g20 aNY MN g21 g22 aNG NP aSt MR aUo KY aRk LT g23 aUB L7 g25 g26 g27 g28 aQL NJ g30 g31 g32 g33 g34 g35 g36 g37 g38 g39 g40 g41 g42 g43 g44 g45 g46 g47 g48 aOg J4 g49 aRF MV aOw KL aQn MU g50 aSC OF aNZ K8 g51 aUw MJ g53 aRP MS aOf OK aRd OA g54 g55 g56 aNE OD g57 g58 g59 g60 aSG K6 g67 g68 g69 g70 g71 g72 g73 g74 aTI LO aQi KA g75 g76 g77 g78 g79 g80 g81 g82 g83 g84 g85 g86 aNr N7 aO2 J9 aTT KX aSW NH g87 aOr M7 aOD LN g88 g89 g90 g91 g92 g93 g94 g95 g96 g97 g98 g99 aF4 V5 aKg FE aJQ DU aJ0 aGl OI aIp LW aKa aEA aGc aJ6 aIb Z9 aJy CN aFt aFD aKQ aHI aGZ aE2 aFR aFL aGR aCd aG6 ED aHY aIN aII aHF aNq aNB aTk aUm aTd aPi aQr aDG aKP FD aKS aDx aEZ F5 aEx aG7 aIU aGI aF8 aIW aGU aHf aH7 aJ2 aLr aIo KM aLy aFV Y0 aHc DI aGY aKz aEw aIL aLp aHT aGA aIv aJ3 aJx aD5 aEX FL aNU aQ1 aQ2 aOI aP6 aOM aRi aOW aJd aRJ aPq aUc aSe aTS aId aF0 aAS aFg D6 aHa aFh aHm aEG aJu aFu aLh aHH KV aIs CH aLn E5 aJt D3 aI2 aHq aJD aI4 aKq aGw aJU aFw aGO aGK aKB aQp aPl aOR aOF aTL aDQ aF7 CQ aKs aKv aKp aCH aID EJ aGm aKx aIE aEI YQ aKD FF aGi DS aJv aJL aIx JZ aJ4 DL aEW FP aHd DQ aIO CG aQb aSj aQK aK8 aKG aGD aLc aIC aHe aKK aGW aFj aJs aJb aKd aLt aBy aHN aJn YB aHM E4 aFo CI Y8 aJ5 FZ aJ9 aCw aIh C7 aE5 aIM aLe aIV aFE aJV aLs aBE aGB DG aCJ aKo DK aIZ aFZ aJq aRv aSw aLd aGp aPb aUg aR5 aUT aRw aSc aSX VX aGG DZ aKw DN aIc aAu aJY DY VN aFK F7 aJR F3 aJX aI8 YT aK9 EZ aEK D0 F4 aGz FA aHr DX aEJ EU aJj B9 aIS DA aQv XP aEv CL aEz EY aEg aKe FS aKJ aHz aDE aFB EK aRK aFG aK7 aKF aF6 aGT aPv aIP aJT aFM aGe aKt aGx aGP aHt aF9 aFX aFW aIn aKX aIQ aGL aHV aIg aKL aGC aBs aLk FC aKi aSF aRG aJB XZ aIq EN aFA FU aR0 aCz aIm CM aFs aS3 aEC aKh aDn aGk CD aHP aG8 aLi aLo aFi aER aJc aH8 aEV aLg aJP aUr aHL aUG aUt aKr aLj aBz aKm C2 aOO aIT aFp aEP aI9 aFa aKO aI3 aHK aHs aK1 aIl aHw aFQ aGS Y2 aJJ F2 aJI aHl aHu aHX aNf aCS aKc DP aB3 aF3 FQ ZA aG1 DH VS aPa aIR aEB aK5 aGa aGE aFm aNK aRz YV aK3 DT aIH C0 aI7 aJp aFN V6 aGr aLv aE9 aKA aCj aE3 D7 ZU aGg C5 a0M aZ2 a0n a0Y a0q a0x aZR a0P a0L aZ4 aZZ a0o a0c a0z a0J aZW aZ7 aZS a0K a0g a0e aZY a0B aZ0 a0d aZ6 a0S a0H a0s a0i aW2 aYf aYw aV4 aVa aWb aX5 aVJ aWh aYN aZj aWM aYz aVs aYT aWl aWk aXp aU4 aYc aWE aZr aY2 aXt aYb aXP aYm aX8 aZa aVL aWZ aZm aVo aWJ aYA aWd aVj aVx aYM aVc aZP aWB aZt aYp aX2 aU3 aZK aWC aXg aVI aWg aYU aXh aVv aYy aW4 aZN aZo aW8 aWA aXb aXZ aYn aVK aXA aZH aYt aXk pY aZs aWR aY1 aU7 aVM aXy aWu aY3 aVh aZe aYv aW5 aYl aYP a0X a0F a00 a0D aZ5 aWL aWH aVP aY5 aZC aXm aXG aVl aXU aYa aZc aYO aYV aZw aXY aYx aYr aWD aWY aYG aWx aU2 aW0 aVW aWm aWp aX7 aVq aXL aVE aXv aY4 aXM aWv aYE aVm aYX aYF aVS aZx aWz aRp aNk aTm aUh aN4 aUH aUd aNN aRZ aQa aRO aSR aRR aPT aS2 aO0 aRW aQt aTP aSk aOu aT6 aSu aR2 aPh aTr aSz aSK aTa aS5 aUk aRa aPY aPp aN1 aNc aPr aUl aPK aR9 aRY aT2 aUL aOA aQJ aRs aSP aTv aUf aPA aOZ aNW aS6 aOx aNz aSU aTq aPH aTR aNb aSv aOh aTB aRj aTo aTi aPG aT4 aM3 aON aQq aOX aOm aQf aQy aQo aQZ aNi aQU aSI aUs aUq aRh aM9 aUu aO6 aPj aPL aNH aP2 aOQ aOG aUK aRE aR3 aUW aTC aS9 aSi aOK aUO aOq aM6 aQ0 aTQ aSn aND aUI aTl aS0 aQV aTt aM4 aRg aUF aUy aNX aPD th1 th3 th4 th5 th9 aHx aKU aEu aHW aGu aHC aH6 aIY aJl aGd aKj aIA aHD aH2 aGX aG5 aKy aH4 aLq aHR aIy aHQ aCi aCM aG4 aGh aE7 aJ1 aK6 YW aEy HH aFl aIB J2 aH9 aJS aHU aI6 aGq aFF Q9 R9 SH RY TN QM TW QH vS BU RH AP AL PT B8 US SF BJ PW PY QY R7 RD U0 O8 PB PG RR RJ UQ T8 O4 RU QG R5 JI TO vQ UC SN TA Q4 RP UF OZ IR O7 UN T7 U9 TR UW QL UB TY PP UJ Q3 UI PQ S9 RX QR PE UT RB T4 QQ OY RT RN IK SC T6 QS PX JR P5 R6 Q0 SD TM TT SP PD UD RM PH QN O9 T5 OQ SO OV QC U1 R8 PZ TD P9 OR PU TX RC P6 PO Q7 P7 TE TC RE UK S7 TF QO U3 TH T9 a0u a0N a0t aZ9 a0l
abbrev Sv(s:ByteArray):A:=.v (.string s)
abbrev I8(n:Int):A:=.v (.int .u8 n)
abbrev I64(n:Int):A:=.v (.int .i64 n)
abbrev Bo(b:Bool):A:=.v (.bool b)
theorem lJ(s:ByteArray):s.data.toList.length=s.size:=rfl
def iF:Nat->aE->aE|0,H=>H|_+1,[]=>[]|m+1,_::H=>none::iF m H
def rI:Nat->aE->aE|0,H=>H.map fun _=>none|_+1,[]=>[]|m+1,b::H=>b::rI m H
theorem lL:∀{m:Nat}{H:aE}{b:Nat}{k:Blk},(iF m H)[b]?=some (some k)↔m<=b/\H[b]?=some (some k)|0,H,b,k=>by simp[iF]|_+1,[],b,k=>by simp[iF]|m+1,x::H,0,k=>by simp[iF]|m+1,x::H,b+1,k=>by simpa[iF]using lL (m:=m) (H:=H) (b:=b) (k:=k)
theorem pX:∀{m:Nat}{H:aE}{b:Nat}{k:Blk},(rI m H)[b]?=some (some k)↔b<m/\H[b]?=some (some k)|0,H,b,k=>by simp[rI]|_+1,[],b,k=>by simp[rI]|m+1,x::H,0,k=>by simp[rI]|m+1,x::H,b+1,k=>by simpa[rI]using pX (m:=m) (H:=H) (b:=b) (k:=k)
theorem BL:∀(m:Nat) (H:aE),(iF m H).length=H.length|0,H=>rfl|_+1,[]=>rfl|m+1,x::H=>by simp[iF,BL m H]
theorem I9:∀(m:Nat) (H:aE),(rI m H).length=H.length|0,H=>by simp[rI]|_+1,[]=>rfl|m+1,x::H=>by simp[rI,I9 m H]
theorem aCZ{T:Tb}{P:Program}{f:FuncId}{zs:List A}{H H':aE}{x y:A}{m:Nat}(hen:uG P f)(h:pT T P f zs H x H')(hy:freeze (iF m H') 20 x=some y):pT T P f zs H y (rI m H'):=by rcases h with⟨zs',hl,-,-,hat⟩|⟨-,hcall⟩;{refine .inr ⟨hen,fun c ys hH ok hr=>?_⟩;subst hH;obtain⟨v,h1,-⟩:=hat [] (fun g=>c.own g/\¬img c.ρ c.H g) c.w ys (nZ ok (fun g hg=>hg) zs zs' ys hl hr);rw[hen]at h1;simp at h1};{refine .inr ⟨hen,fun c ys hH ok hr=>(hcall c ys hH ok hr).mono ?_⟩;rintro e w' ⟨v,c',rfl,rfl,hH',hto,ok',hR⟩;subst hH';have hh:∀g,img c'.ρ (iF m c'.H) g->img c'.ρ c'.H g:=fun g ⟨b,k,hb,hg⟩=>⟨b,k,(lL.1 hb).2,hg⟩;(have hc:∀g,img c'.ρ (rI m c'.H) g->img c'.ρ c'.H g/\¬img c'.ρ (iF m c'.H) g:=fun g ⟨b,k,hb,hg⟩=>by obtain⟨hb1,hb2⟩:=pX.1 hb;refine⟨⟨b,k,hb2,hg⟩,fun⟨b',k',hb',hg'⟩=>?_⟩;obtain⟨h1,h2⟩:=lL.1 hb';have:=ok'.inj b b' k k' g hb2 h2 hg hg';omega);have ok2:Ok T.gl ⟨c'.ρ,c'.own,iF m c'.H,c'.w⟩:=⟨by rw[BL];exact ok'.len,ok'.lt,fun g hi=>ok'.img g (hh g hi),fun b e cs wh g hb hg=>ok'.blk b e cs wh g (lL.1 hb).2 hg,fun b b' k k' g hb hb'=>ok'.inj b b' k k' g (lL.1 hb).2 (lL.1 hb').2,ok'.glob⟩;(have hlend:dT (iF m c'.H) [x]=some [y]:=by unfold dT dT;rw[hy]);have hRL:RL c'.ρ c'.own c'.w [x] [v]:=RL.cons hR (by rw[RL]);have hy':=nZ ok2 (own:=fun g=>c'.own g/\¬img c'.ρ (iF m c'.H) g) (fun g hg=>hg) [x] [y] [v] hlend hRL;(have hRy:R [] (fun g=>c'.own g/\¬img c'.ρ (iF m c'.H) g) c'.w y v:=by rw[RL]at hy';obtain⟨v',ys',e,h1,-⟩:=hy';simp only[List.cons.injEq]at e;obtain⟨rfl,-⟩:=e;exact h1);have hk:iP c'.ρ c'.own c'.w c'.ρ (fun g=>c'.own g/\¬img c'.ρ (iF m c'.H) g) c'.w:=⟨List.prefix_rfl,Nat.le_refl _,fun g _ h=>⟨fun h'=>h h'.1,rfl⟩,fun _ cur _ fz h=>⟨cur,fz,h,rfl⟩,fun _ es n h=>⟨es,n,h⟩,fun _ o h _=>⟨o,h,rfl⟩⟩;refine⟨v,⟨c'.ρ,fun g=>c'.own g/\¬img c'.ρ (iF m c'.H) g,rI m c'.H,c'.w⟩,rfl,rfl,rfl,?_,?_,hRy.open_⟩;{refine⟨hto.pre,hto.size,hto.os,hto.tape,hto.output,fun g hg hi=>hto.img g hg (hc g hi).1,hto.same,hto.shape,hto.maps,hto.kinds,fun g hg=>⟨fun h=>(hto.own g hg).1 h.1,fun h=>?_⟩⟩;rcases(hto.own g hg).2 h with h1|h1;{by_cases hi:img c'.ρ (iF m c'.H) g;{exact .inr (hto.img g hg (hh g hi))};{exact .inl ⟨h1,hi⟩}};{exact .inr h1}};{exact⟨by rw[I9];exact ok'.len,fun g hg=>ok'.lt g hg.1,fun g hi=>⟨ok'.img g (hc g hi).1,(hc g hi).2⟩,fun b e cs wh g hb hg=>(ok'.blk b e cs wh g (pX.1 hb).2 hg).keep hk rfl,fun b b' k k' g hb hb'=>ok'.inj b b' k k' g (pX.1 hb).2 (pX.1 hb').2,ok'.glob.less fun g h=>h.1⟩}}
def yI(x:A)(H:aE):Nat->Option (A×aE)|0=>(freeze (iF 0 H) 20 x).map fun y=>(y,rI 0 H)|m+1=>match freeze (iF (m+1) H) 20 x with|some y=>some (y,rI (m+1) H)|none=>yI x H m
theorem wB{x y:A}{H K:aE}:∀{m:Nat},yI x H m=some (y,K)->∃m,freeze (iF m H) 20 x=some y/\K=rI m H|0,h=>(by unfold yI at h;cases h1:freeze (iF 0 H) 20 x with|none=>simp[h1]at h|some z=>simp only[h1,Option.map_some,Option.some.injEq,Prod.mk.injEq]at h;exact⟨0,by rw[h1,h.1],h.2.symm⟩)|m+1,h=>by unfold yI at h;cases h1:freeze (iF (m+1) H) 20 x with|none=>rw[h1]at h;exact wB h|some z=>simp only[h1,Option.some.injEq,Prod.mk.injEq]at h;exact⟨m+1,by rw[h1,h.1],h.2.symm⟩
noncomputable def aDV(zs:List A)(H:aE):Option (A×aE):=match(oF Cy 1000).2 (.fn 25) zs H with|some (x,H')=>yI x H' H'.length|none=>none
theorem aD1{zs:List A}{H H':aE}{x:A}(h:aDV zs H=some (x,H')):pT Cy.T Tryz.prog 25 zs H x H':=by unfold aDV at h;rw[uH]at h;cases h1:aW.callO Cy 1000 (.fn 25) zs H with|none=>simp[h1]at h|some r=>obtain⟨x1,H1⟩:=r;simp only[h1]at h;obtain⟨m,h2,rfl⟩:=wB h;exact aCZ (rJ.enters (show Cy.B 25=some g25.fn from rfl)) ((iY rJ 1000).2.fn _ _ _ _ _ h1) h2
noncomputable def aAR(f:FuncId):Option (List A->aE->Option (A×aE)):=bif Nat.beq f 25 then some aDV else SG f
theorem aCP:∀f g zs H x H',aAR f=some g->g zs H=some (x,H')->pT Cy.T Tryz.prog f zs H x H':=by intro f g zs H x H' hg h;unfold aAR at hg;cases h1:Nat.beq f 25 with|true=>obtain rfl:=Nat.eq_of_beq_eq_true h1;rw[h1,cond_true]at hg;obtain rfl:=Option.some.inj hg;exact aD1 h|false=>rw[h1,cond_false]at hg;exact rJ.extO f g zs H x H' hg h
abbrev i8(n:Int):A:=.v (.int .u8 n)
abbrev i64(n:Int):A:=.v (.int .i64 n)
abbrev bo(b:Bool):A:=.v (.bool b)
abbrev sA(l:Array UInt8):A:=.v (.string ⟨l⟩)
def rp(n:Nat)(l:List A):List A:=(List.replicate n l).flatten
structure aHp(a:A) where
 m:A
 h:a=m
noncomputable def CS(X:FuncId->List A->Option A):Ctx:=⟨Cy.T,Cy.B,X,aAR⟩
theorem aMp{X:FuncId->List A->Option A}(h:QOk Cy.T Tryz.prog X):kR Tryz.prog (CS X):=⟨rJ.mixed,rJ.types,rJ.loops,rJ.fns,h,aCP⟩
theorem aMy:QOk Cy.T Tryz.prog vV:=rJ.ext
def P4:List (List A×A)->List A->Option A|[],_=>none|p::l,zs=>bif eqL p.1 zs then some p.2 else P4 l zs
theorem AV:∀{l:List (List A×A)}{zs:List A}{r:A},P4 l zs=some r->(zs,r)∈l|[],_,_,h=>by cases h|p::l,zs,r,h=>by unfold P4 at h;cases hb:eqL p.1 zs with|true=>simp only[hb,cond_true,Option.some.injEq]at h;rw[<-h,<-mV _ _ hb];exact .head _|false=>simp only[hb,cond_false]at h;exact .tail _ (AV h)
def orX(f0:Nat)(t:List (List A×A))(X:FuncId->List A->Option A)(f:FuncId)(zs:List A):Option A:=bif Nat.beq f f0 then P4 t zs else X f zs
theorem mW{X0 X:FuncId->List A->Option A}{f0:Nat}{t:List (List A×A)}(h0:QOk Cy.T Tryz.prog X0)(ht:∀p∈t,EvQ (CS X0) f0 p.1 p.2)(hX:QOk Cy.T Tryz.prog X):QOk Cy.T Tryz.prog (orX f0 t X):=by intro f zs r h;unfold orX at h;cases hb:Nat.beq f f0 with|false=>simp only[hb,cond_false]at h;exact hX f zs r h|true=>obtain rfl:=Nat.eq_of_beq_eq_true hb;simp only[hb,cond_true]at h;obtain⟨N,hN⟩:=ht _ (AV h);exact(iY (aMp h0) N).1 f zs r hN
