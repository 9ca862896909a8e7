/- The evaluator's context: types and bodies, and that they are the program's. Printed by wip/ev/gen/ctx.py. -/
import Derived.Test.YtfkegfjggibdhaaGreatDoorN09
import Derived.Test.YtfkegfjggibdhaaGreatDoorN07
set_option linter.all false
namespace Go.Proofs.YtfkegfjggibdhaaGreatDoor.Ev
open Go Go.RowKit
set_option maxRecDepth 100000
def Cy:Ctx:=⟨Cz.T,Cz.B,zT,Cz.XO⟩
theorem tH:jF Tryz.prog Cy:=⟨F3.mixed,F3.types,F3.loops,F3.fns,aAi,F3.extO⟩
noncomputable def aBA(f:FuncId):Option (List A->aF->Option (A×aF)):=bif Nat.beq f 223 then some (rT Cy)else RZ f
theorem aCp:∀f g zs H x H',aBA f=some g->g zs H=some (x,H')->oV Cy.T Tryz.prog f zs H x H':=by intro f g zs H x H' hg h;unfold aBA at hg;cases h1:Nat.beq f 223 with|true=>obtain rfl:=ax h1;rw[h1,bq]at hg;obtain rfl:=af hg;exact UM tH h|false=>rw[h1,cg]at hg;exact tH.extO f g zs H x H' hg h
noncomputable def Cx:Ctx:=⟨Cy.T,Cy.B,Cy.X,aBA⟩
theorem rZ:jF Tryz.prog Cx:=⟨tH.mixed,tH.types,tH.loops,tH.fns,tH.ext,aCp⟩
theorem aRB:Cy.B 189=some aGn.fn:=by rfl
theorem aZz:nX Cy 189=true:=by rfl
theorem aM7:Cy.B 191=some aOR.fn:=by rfl
theorem aZN:nX Cy 191=true:=by rfl
theorem aZw:Cx.T 1=some th1.t:=by rfl
theorem aZC:Cx.T 3=some th3.t:=by rfl
theorem aYR:Cx.T 4=some th4.t:=by rfl
theorem aY3:Cx.T 5=some th5.t:=by rfl
theorem aZt:Cx.T 9=some th9.t:=by rfl
theorem aTJ:Cx.T 20=some aPN.t:=by rfl
theorem aXy:Cx.T 21=some aJ1.t:=by rfl
theorem aU9:Cx.T 22=some aOu.t:=by rfl
theorem aWl:Cx.T 23=some aRn.t:=by rfl
theorem aUm:Cx.T 24=some aI4.t:=by rfl
theorem aXB:Cx.T 25=some aOp.t:=by rfl
theorem aUX:Cx.T 27=some aQJ.t:=by rfl
theorem aYi:Cx.T 29=some aLz.t:=by rfl
theorem aUK:Cx.T 31=some aOC.t:=by rfl
theorem aXH:Cx.T 33=some aOz.t:=by rfl
theorem aYa:Cx.T 34=some aQI.t:=by rfl
theorem aVz:Cx.T 36=some aJx.t:=by rfl
theorem aX7:Cx.T 37=some aSS:=by rfl
theorem aTk:Cx.T 38=some aJp:=by rfl
theorem aXL:Cx.T 39=some aLe.t:=by rfl
theorem aYv:Cx.T 40=some aS9:=by rfl
theorem aUJ:Cx.T 42=some aGB:=by rfl
theorem aXt:Cx.T 44=some aSG:=by rfl
theorem aWh:Cx.T 45=some aIR.t:=by rfl
theorem aWo:Cx.T 46=some aJ3.t:=by rfl
theorem aWe:Cx.T 49=some aMW.t:=by rfl
theorem aTP:Cx.T 50=some aMh.t:=by rfl
theorem aWZ:Cx.T 51=some aPV.t:=by rfl
theorem aVs:Cx.T 52=some aJL.t:=by rfl
theorem aVd:Cx.T 54=some aOs.t:=by rfl
theorem aTA:Cx.T 55=some aRr.t:=by rfl
theorem aUb:Cx.T 56=some aQL.t:=by rfl
theorem aXT:Cx.T 58=some aRU.t:=by rfl
theorem aXb:Cx.T 59=some aKe:=by rfl
theorem aW5:Cx.T 60=some VZ.t:=by rfl
theorem aYf:Cx.T 62=some aOT.t:=by rfl
theorem aTU:Cx.T 63=some aSt.t:=by rfl
theorem aX9:Cx.T 66=some aS5.t:=by rfl
theorem aW7:Cx.T 69=some aQE.t:=by rfl
theorem aVv:Cx.T 73=some aBq.t:=by rfl
theorem aWk:Cx.T 75=some aOm.t:=by rfl
theorem aUk:Cx.T 79=some aPz.t:=by rfl
theorem aT8:Cx.T 81=some aMb.t:=by rfl
theorem aV8:Cx.T 82=some aPs:=by rfl
theorem aVu:Cx.T 83=some aMQ:=by rfl
theorem aXX:Cx.T 85=some aSZ.t:=by rfl
theorem aXk:Cx.T 86=some aKp.t:=by rfl
theorem aV6:Cx.T 88=some aRP.t:=by rfl
theorem aXj:Cx.T 90=some aLT:=by rfl
theorem aVr:Cx.T 92=some aRe.t:=by rfl
theorem aX0:Cx.T 93=some T5.t:=by rfl
theorem aYo:Cx.T 95=some aIU.t:=by rfl
theorem aR6:Cx.T 104=some Y3.t:=by rfl
theorem aQs:Cx.T 107=some aCr.t:=by rfl
theorem aQ8:Cx.T 109=some XW.t:=by rfl
theorem aQV:Cx.T 111=some aAY.t:=by rfl
theorem aQH:Cx.T 122=some aBG.t:=by rfl
theorem aPX:Cx.T 128=some aCn.t:=by rfl
theorem aMn:Cx.T 130=some aAj.t:=by rfl
theorem aTa:Cx.T 132=some XP.t:=by rfl
theorem aTd:Cx.T 136=some WF.t:=by rfl
theorem aTc:Cx.T 145=some W7.t:=by rfl
theorem aLa:Cx.T 149=some aAm.t:=by rfl
theorem aLS:Cx.T 151=some aAJ:=by rfl
theorem aNx:Cx.T 157=some Y2.t:=by rfl
theorem aRF:Cx.T 159=some aDf.t:=by rfl
theorem aQQ:Cx.T 171=some ZL.t:=by rfl
theorem aJs:Cx.T 178=some KG.t:=by rfl
theorem aM0:Cx.T 181=some aAZ.t:=by rfl
theorem aP5:Cx.T 182=some aBO.t:=by rfl
theorem aRG:Cx.T 186=some aDq.t:=by rfl
theorem aOI:Cx.T 187=some X4.t:=by rfl
theorem aOr:Cx.T 193=some XA.t:=by rfl
theorem aOK:Cx.T 199=some WX.t:=by rfl
theorem aKL:Cx.T 202=some aCs.t:=by rfl
theorem aSJ:Cx.T 203=some aBH.t:=by rfl
theorem aPD:Cx.T 210=some WP.t:=by rfl
theorem aPh:Cx.T 213=some aCJ.t:=by rfl
theorem aPJ:Cx.T 216=some YT.t:=by rfl
theorem aS7:Cx.T 218=some aCB.t:=by rfl
theorem aKw:Cx.T 220=some aC9.t:=by rfl
theorem aQR:Cx.T 224=some aDG.t:=by rfl
theorem aRT:Cx.T 226=some aDB.t:=by rfl
theorem aKF:Cx.T 228=some YP.t:=by rfl
theorem aJ8:Cx.T 230=some aC5.t:=by rfl
theorem aJY:Cx.T 233=some WZ.t:=by rfl
theorem aJh:Cx.T 267=some XN.t:=by rfl
theorem aN7:Cx.T 268=some X5.t:=by rfl
theorem aJi:Cx.T 270=some YK.t:=by rfl
theorem aKV:Cx.T 272=some ZG.t:=by rfl
theorem aKi:Cx.T 277=some aDL.t:=by rfl
theorem aSl:Cx.T 278=some aAK.t:=by rfl
theorem aR0:Cx.T 292=some aA0.t:=by rfl
theorem aMr:Cx.T 293=some aCV.t:=by rfl
theorem aSn:Cx.T 299=some aCP.t:=by rfl
theorem aJA:Cx.T 302=some aA5.t:=by rfl
theorem aK8:Cx.T 303=some aDC.t:=by rfl
theorem aSe:Cx.T 305=some X8.t:=by rfl
theorem aNs:Cx.T 306=some aBb.t:=by rfl
theorem aJB:Cx.T 316=some aCW.t:=by rfl
theorem aIW:Cx.T 323=some WI.t:=by rfl
theorem aNF:Cx.T 329=some aB1.t:=by rfl
theorem aQ9:Cx.T 331=some ZY.t:=by rfl
theorem aP1:Cx.T 337=some aB6.t:=by rfl
theorem aKH:Cx.T 340=some YU.t:=by rfl
theorem aRS:Cx.T 342=some aBr.t:=by rfl
theorem aNe:Cx.T 344=some ZE.t:=by rfl
theorem aKl:Cx.T 347=some aC7.t:=by rfl
theorem aOD:Cx.T 349=some aAA.t:=by rfl
theorem aMa:Cx.T 352=some aDv.t:=by rfl
theorem aJV:Cx.T 353=some ZS.t:=by rfl
theorem aMz:Cx.T 356=some aDa.t:=by rfl
theorem aPY:Cx.T 357=some aDd.t:=by rfl
theorem aRu:Cx.T 358=some aAu.t:=by rfl
theorem aOQ:Cx.T 360=some aBj.t:=by rfl
theorem aJb:Cx.T 362=some aC8.t:=by rfl
theorem aKy:Cx.T 364=some WM.t:=by rfl
theorem aR3:Cx.T 368=some WH.t:=by rfl
theorem aMZ:Cx.T 369=some W8.t:=by rfl
theorem aNP:Cx.T 371=some aBa.t:=by rfl
theorem aO7:Cx.T 374=some aBY.t:=by rfl
theorem aRJ:Cx.T 375=some aAM.t:=by rfl
theorem aJc:Cx.T 376=some aB8.t:=by rfl
theorem aRO:Cx.T 377=some aAF.t:=by rfl
theorem aJq:Cx.T 378=some aCi:=by rfl
theorem aMV:Cx.T 383=some aC6.t:=by rfl
theorem aLt:Cx.T 385=some aB9.t:=by rfl
theorem aLR:Cx.T 390=some aDo.t:=by rfl
theorem aLr:Cx.T 394=some ZO.t:=by rfl
theorem aQd:Cx.T 403=some aAE.t:=by rfl
theorem aSm:Cx.T 406=some aAO.t:=by rfl
theorem aOO:Cx.T 411=some aAG.t:=by rfl
theorem aNJ:Cx.T 417=some Z5.t:=by rfl
theorem aNE:Cx.T 419=some aDn.t:=by rfl
theorem aOd:Cx.T 422=some aDw.t:=by rfl
theorem aOA:Cx.T 435=some aDJ.t:=by rfl
theorem aPr:Cx.T 438=some aDF:=by rfl
abbrev XB(f:FuncId)(m:MFn):Prop:=Cx.B f=some m
theorem aSr:XB 6 g6.fn:=by rfl
theorem aZl:XB 9 g9.fn:=by rfl
theorem aXg:XB 10 g10.fn:=by rfl
theorem aUL:XB 11 g11.fn:=by rfl
theorem aT4:XB 12 g12.fn:=by rfl
theorem aTy:XB 13 g13.fn:=by rfl
theorem aXo:XB 14 g14.fn:=by rfl
theorem aUM:XB 17 g17.fn:=by rfl
theorem aXu:XB 18 g18.fn:=by rfl
theorem aYn:XB 20 g20.fn:=by rfl
theorem aWW:XB 21 g21.fn:=by rfl
theorem aYt:XB 22 g22.fn:=by rfl
theorem aVN:XB 28 g28.fn:=by rfl
theorem aVP:XB 29 g29.fn:=by rfl
theorem aXq:XB 30 g30.fn:=by rfl
theorem aYb:XB 31 g31.fn:=by rfl
theorem aVp:XB 32 g32.fn:=by rfl
theorem aTT:XB 33 g33.fn:=by rfl
theorem aUU:XB 34 g34.fn:=by rfl
theorem aVb:XB 35 g35.fn:=by rfl
theorem aXS:XB 36 g36.fn:=by rfl
theorem aV5:XB 37 g37.fn:=by rfl
theorem aTN:XB 38 g38.fn:=by rfl
theorem CP:XB 39 g39.fn:=by rfl
theorem aYd:XB 40 g40.fn:=by rfl
theorem aIx:XB 41 g41.fn:=by rfl
theorem aUN:XB 43 g43.fn:=by rfl
theorem IS:XB 44 g44.fn:=by rfl
theorem aVJ:XB 45 g45.fn:=by rfl
theorem aID:XB 46 g46.fn:=by rfl
theorem aVn:XB 47 g47.fn:=by rfl
theorem aWP:XB 48 g48.fn:=by rfl
theorem aU3:XB 49 g49.fn:=by rfl
theorem aIm:XB 50 g50.fn:=by rfl
theorem aTB:XB 56 g56.fn:=by rfl
theorem aXD:XB 57 g57.fn:=by rfl
theorem aX6:XB 59 g59.fn:=by rfl
theorem aVE:XB 60 g60.fn:=by rfl
theorem aTr:XB 61 g61.fn:=by rfl
theorem aVo:XB 62 g62.fn:=by rfl
theorem aXw:XB 63 g63.fn:=by rfl
theorem aUh:XB 64 g64.fn:=by rfl
theorem aTC:XB 65 g65.fn:=by rfl
theorem aXF:XB 66 g66.fn:=by rfl
theorem aWJ:XB 67 g67.fn:=by rfl
theorem aHX:XB 68 g68.fn:=by rfl
theorem aVH:XB 69 g69.fn:=by rfl
theorem aVf:XB 70 g70.fn:=by rfl
theorem IB:XB 71 g71.fn:=by rfl
theorem aWQ:XB 72 g72.fn:=by rfl
theorem aUP:XB 73 g73.fn:=by rfl
theorem aII:XB 74 g74.fn:=by rfl
theorem aXV:XB 75 g75.fn:=by rfl
theorem aWI:XB 76 g76.fn:=by rfl
theorem aTX:XB 77 g77.fn:=by rfl
theorem aUS:XB 78 g78.fn:=by rfl
theorem aW9:XB 79 g79.fn:=by rfl
theorem JQ:XB 80 g80.fn:=by rfl
theorem aVx:XB 81 g81.fn:=by rfl
theorem aIl:XB 82 g82.fn:=by rfl
theorem aWs:XB 83 g83.fn:=by rfl
theorem aV0:XB 84 g84.fn:=by rfl
theorem aXz:XB 85 g85.fn:=by rfl
theorem aHT:XB 86 g86.fn:=by rfl
theorem aVI:XB 87 g87.fn:=by rfl
theorem aUp:XB 88 g88.fn:=by rfl
theorem aH4:XB 89 g89.fn:=by rfl
theorem aIv:XB 90 g90.fn:=by rfl
theorem aUf:XB 91 g91.fn:=by rfl
theorem aVZ:XB 92 g92.fn:=by rfl
theorem aI0:XB 100 aEG.fn:=by rfl
theorem aNB:XB 101 TL.fn:=by rfl
theorem aOJ:XB 104 ZZ.fn:=by rfl
theorem aRy:XB 105 aMs.fn:=by rfl
theorem aJQ:XB 106 aRj.fn:=by rfl
theorem aPI:XB 107 aSz.fn:=by rfl
theorem E1:XB 108 aL0.fn:=by rfl
theorem aI6:XB 109 aS1.fn:=by rfl
theorem aNY:XB 110 aLh.fn:=by rfl
theorem aLf:XB 111 aI9.fn:=by rfl
theorem aSY:XB 112 aQ4.fn:=by rfl
theorem aI3:XB 113 aQp.fn:=by rfl
theorem WQ:XB 114 aSv.fn:=by rfl
theorem aRo:XB 115 aLK.fn:=by rfl
theorem aRa:XB 116 aPL.fn:=by rfl
theorem aQZ:XB 117 aQ2.fn:=by rfl
theorem aQA:XB 118 V4.fn:=by rfl
theorem aDN:XB 119 aPq.fn:=by rfl
theorem aQF:XB 120 aL1.fn:=by rfl
theorem aSO:XB 121 aGQ.fn:=by rfl
theorem aQc:XB 122 aOc.fn:=by rfl
theorem aIO:XB 123 aOL.fn:=by rfl
theorem aNg:XB 124 aJT.fn:=by rfl
theorem aKT:XB 125 aNd.fn:=by rfl
theorem aML:XB 126 aKU.fn:=by rfl
theorem aQ3:XB 127 aMy.fn:=by rfl
theorem aM8:XB 128 aMA.fn:=by rfl
theorem aJO:XB 129 aNv.fn:=by rfl
theorem aSk:XB 130 aQo.fn:=by rfl
theorem aJk:XB 131 aRt.fn:=by rfl
theorem YZ:XB 132 aEL.fn:=by rfl
theorem aPP:XB 133 aPF.fn:=by rfl
theorem OP:XB 134 aL4.fn:=by rfl
theorem PB:XB 135 aQi.fn:=by rfl
theorem aMv:XB 136 aGh.fn:=by rfl
theorem aSg:XB 137 aDc.fn:=by rfl
theorem aBk:XB 138 aLZ.fn:=by rfl
theorem aN2:XB 139 aJu.fn:=by rfl
theorem aSX:XB 140 aNC.fn:=by rfl
theorem aQr:XB 141 aNm.fn:=by rfl
theorem aLX:XB 148 aP8.fn:=by rfl
theorem aMR:XB 150 aJw.fn:=by rfl
theorem aRm:XB 155 aHj.fn:=by rfl
theorem aMo:XB 158 aMc.fn:=by rfl
theorem aNz:XB 159 aRf.fn:=by rfl
theorem aBM:XB 160 aD3.fn:=by rfl
theorem aQT:XB 161 aJG.fn:=by rfl
theorem aLF:XB 162 aLc.fn:=by rfl
theorem aQX:XB 163 aKK.fn:=by rfl
theorem aNW:XB 164 aFB.fn:=by rfl
theorem aJS:XB 165 aRs.fn:=by rfl
theorem aLY:XB 166 aQb.fn:=by rfl
theorem aKu:XB 167 aKZ.fn:=by rfl
theorem aLn:XB 168 aR8.fn:=by rfl
theorem aRE:XB 169 aC2.fn:=by rfl
theorem aJd:XB 170 aSs.fn:=by rfl
theorem aK6:XB 171 aM6.fn:=by rfl
theorem aKE:XB 172 aRw.fn:=by rfl
theorem aNf:XB 173 N7.fn:=by rfl
theorem fF:XB 177 aKA.fn:=by rfl
theorem W9:XB 178 aLg.fn:=by rfl
theorem aCM:XB 179 aLv.fn:=by rfl
theorem aIP:XB 180 aQe.fn:=by rfl
theorem aOP:XB 181 aRl.fn:=by rfl
theorem OJ:XB 182 aSc.fn:=by rfl
theorem kC:XB 183 aK9.fn:=by rfl
theorem aNX:XB 184 aJ2.fn:=by rfl
theorem aJz:XB 185 aJo.fn:=by rfl
theorem aOS:XB 186 aRN.fn:=by rfl
theorem aOa:XB 187 aOE.fn:=by rfl
theorem aME:XB 188 aN6.fn:=by rfl
theorem aJe:XB 189 aGn.fn:=by rfl
theorem aM3:XB 190 aRp.fn:=by rfl
theorem aTb:XB 192 aBu.fn:=by rfl
theorem aJm:XB 193 aEY.fn:=by rfl
theorem tE:XB 194 aP0.fn:=by rfl
theorem aQB:XB 195 aG2.fn:=by rfl
theorem qO:XB 196 aL9.fn:=by rfl
theorem AH:XB 197 aS2.fn:=by rfl
theorem aLA:XB 198 aPA.fn:=by rfl
theorem aJJ:XB 199 aQh.fn:=by rfl
theorem aPb:XB 200 aSU.fn:=by rfl
theorem aLl:XB 201 aRd.fn:=by rfl
theorem aNw:XB 202 aQD.fn:=by rfl
theorem aJZ:XB 203 aFO.fn:=by rfl
theorem aOw:XB 204 aFH.fn:=by rfl
theorem aLm:XB 205 aMF.fn:=by rfl
theorem LK:XB 206 aET.fn:=by rfl
theorem aDg:XB 207 aAe.fn:=by rfl
theorem aK0:XB 212 aDV.fn:=by rfl
theorem aIQ:XB 213 PE.fn:=by rfl
theorem aJ0:XB 214 aAf.fn:=by rfl
theorem aOv:XB 215 aEV.fn:=by rfl
theorem aPv:XB 216 aLQ.fn:=by rfl
theorem aPo:XB 217 aJM.fn:=by rfl
theorem L9:XB 218 aFf.fn:=by rfl
theorem xE:XB 220 aJN.fn:=by rfl
theorem aOf:XB 221 aRH.fn:=by rfl
theorem aI7:XB 222 aNZ.fn:=by rfl
theorem WD:XB 224 aNt.fn:=by rfl
theorem aQk:XB 226 aQP.fn:=by rfl
theorem v8:XB 227 aKG.fn:=by rfl
theorem aN9:XB 228 aKz.fn:=by rfl
theorem aLd:XB 229 aIT.fn:=by rfl
theorem aRV:XB 230 aOg.fn:=by rfl
theorem aN5:XB 231 aQj.fn:=by rfl
theorem aMj:XB 232 aPk.fn:=by rfl
theorem aOx:XB 233 aRc.fn:=by rfl
theorem aST:XB 234 aP4.fn:=by rfl
theorem aP6:XB 235 aPf.fn:=by rfl
theorem aO1:XB 236 aKk.fn:=by rfl
theorem aQy:XB 237 aOe.fn:=by rfl
theorem aLW:XB 238 aQn.fn:=by rfl
theorem aOX:XB 239 aN3.fn:=by rfl
theorem aOB:XB 240 aLC.fn:=by rfl
theorem aNc:XB 241 aNA.fn:=by rfl
theorem aKr:XB 242 aRh.fn:=by rfl
theorem aRz:XB 243 aMP.fn:=by rfl
theorem aPm:XB 244 aLI.fn:=by rfl
theorem aMD:XB 245 aI5.fn:=by rfl
theorem aKB:XB 249 aD9.fn:=by rfl
theorem aSN:XB 250 aEU.fn:=by rfl
theorem aRZ:XB 251 aND.fn:=by rfl
theorem aNR:XB 253 aPp.fn:=by rfl
theorem aSR:XB 254 aL6.fn:=by rfl
theorem aMN:XB 255 aG5.fn:=by rfl
theorem aNK:XB 256 aPU.fn:=by rfl
theorem aJR:XB 257 aOH.fn:=by rfl
theorem aJF:XB 258 aJj.fn:=by rfl
theorem aSf:XB 259 aSC.fn:=by rfl
theorem aSD:XB 260 aS8.fn:=by rfl
theorem PI:XB 261 aRi.fn:=by rfl
theorem aJX:XB 262 aNn.fn:=by rfl
theorem aMO:XB 263 aJK.fn:=by rfl
theorem aR2:XB 264 aMf.fn:=by rfl
theorem aRW:XB 265 aO5.fn:=by rfl
theorem aRL:XB 266 aON.fn:=by rfl
theorem YM:XB 268 aNH.fn:=by rfl
theorem ZK:XB 271 aSx.fn:=by rfl
theorem A0:XB 272 aLs.fn:=by rfl
theorem aJH:XB 274 aQz.fn:=by rfl
theorem mW:XB 275 aRq.fn:=by rfl
theorem aQ7:XB 276 aO8.fn:=by rfl
theorem aQK:XB 277 aMd.fn:=by rfl
theorem aRK:XB 278 aLP.fn:=by rfl
theorem aSu:XB 279 aSM.fn:=by rfl
theorem aNi:XB 280 aRv.fn:=by rfl
theorem aPK:XB 281 aMi.fn:=by rfl
theorem aRA:XB 282 aPe.fn:=by rfl
theorem aMG:XB 283 aOU.fn:=by rfl
theorem aSw:XB 284 aJU.fn:=by rfl
theorem aKQ:XB 285 aNT.fn:=by rfl
theorem aR9:XB 286 aNQ.fn:=by rfl
theorem aM1:XB 287 aJ9.fn:=by rfl
theorem aNN:XB 288 aPT.fn:=by rfl
theorem aKM:XB 289 aGq.fn:=by rfl
theorem aKc:XB 290 aKg.fn:=by rfl
theorem aBd:XB 291 aKI.fn:=by rfl
theorem aPg:XB 292 aMM.fn:=by rfl
theorem aK5:XB 293 aQl.fn:=by rfl
theorem aKn:XB 296 aEh.fn:=by rfl
theorem aM5:XB 300 aFK.fn:=by rfl
theorem aRg:XB 301 aE5.fn:=by rfl
theorem aSA:XB 302 WB.fn:=by rfl
theorem aOt:XB 304 aF6.fn:=by rfl
theorem aDr:XB 305 aSV.fn:=by rfl
theorem BI:XB 306 aPG.fn:=by rfl
theorem aJI:XB 307 aPH.fn:=by rfl
theorem aS3:XB 308 aOy.fn:=by rfl
theorem aP3:XB 309 aMu.fn:=by rfl
theorem aPa:XB 310 aQ6.fn:=by rfl
theorem aSp:XB 314 aAQ.fn:=by rfl
theorem aI8:XB 315 aKP.fn:=by rfl
theorem aPd:XB 316 aPQ.fn:=by rfl
theorem aDy:XB 317 aSK.fn:=by rfl
theorem aPn:XB 318 ZA.fn:=by rfl
theorem aSi:XB 320 aOb.fn:=by rfl
theorem aNS:XB 321 aNU.fn:=by rfl
theorem aMY:XB 322 aPZ.fn:=by rfl
theorem aJt:XB 323 aPy.fn:=by rfl
theorem aLB:XB 324 aKv.fn:=by rfl
theorem aMt:XB 325 aFg.fn:=by rfl
theorem aRR:XB 326 aD5.fn:=by rfl
theorem aLk:XB 327 aKs.fn:=by rfl
theorem aMT:XB 329 aSq.fn:=by rfl
theorem aZg:Cx.T.gl.tab 7=some ([.int .u8 0,.int .u8 1,.int .u8 56,.int .u8 2,.int .u8 57,.int .u8 49,.int .u8 28,.int .u8 3,.int .u8 61,.int .u8 58,.int .u8 42,.int .u8 50,.int .u8 38,.int .u8 29,.int .u8 17,.int .u8 4,.int .u8 62,.int .u8 47,.int .u8 59,.int .u8 36,.int .u8 45,.int .u8 43,.int .u8 51,.int .u8 22,.int .u8 53,.int .u8 39,.int .u8 33,.int .u8 30,.int .u8 24,.int .u8 18,.int .u8 12,.int .u8 5,.int .u8 63,.int .u8 55,.int .u8 48,.int .u8 27,.int .u8 60,.int .u8 41,.int .u8 37,.int .u8 16,.int .u8 46,.int .u8 35,.int .u8 44,.int .u8 21,.int .u8 52,.int .u8 32,.int .u8 23,.int .u8 11,.int .u8 54,.int .u8 26,.int .u8 40,.int .u8 15,.int .u8 34,.int .u8 20,.int .u8 31,.int .u8 10,.int .u8 25,.int .u8 14,.int .u8 19,.int .u8 9,.int .u8 13,.int .u8 8,.int .u8 7,.int .u8 6]:List Value):=by rfl
theorem aY6:Cx.T.gl.tab 0=some ([.int .i64 4,.int .i64 2,.int .i64 4,.int .i64 4,.int .i64 4]:List Value):=by rfl
theorem aYV:Cx.T.gl.tab 4=some ([.int .u8 0,.int .u8 35,.int .u8 38,.int .u8 29,.int .u8 7,.int .u8 7,.int .u8 15,.int .u8 32,.int .u8 92]:List Value):=by rfl
theorem aZB:Cx.T.gl.tab 2=some ([.int .u8 0,.int .u8 1,.int .u8 1,.int .u8 1,.int .u8 3,.int .u8 3,.int .u8 2,.int .u8 2,.int .u8 2,.int .u8 2,.int .u8 3,.int .u8 3,.int .u8 3]:List Value):=by rfl
theorem aYS:Cx.T.gl.tab 1=some ([.string ⟨#[]⟩,.string ⟨#[]⟩,.string ⟨#[]⟩,.string ⟨#[]⟩,.string ⟨#[]⟩,.string ⟨#[]⟩,.string ⟨#[]⟩,.string ⟨#[]⟩,.string ⟨#[]⟩,.string ⟨#[]⟩,.string ⟨#[]⟩,.string ⟨#[]⟩,.string ⟨#[]⟩,.string ⟨#[]⟩,.string ⟨#[]⟩,.string ⟨#[73]⟩,.string ⟨#[83]⟩,.string ⟨#[69]⟩,.string ⟨#[79]⟩,.string ⟨#[77]⟩,.string ⟨#[73,83]⟩,.string ⟨#[73,77]⟩,.string ⟨#[83,77]⟩,.string ⟨#[79,77]⟩,.string ⟨#[73,65]⟩,.string ⟨#[77,73]⟩,.string ⟨#[73,73]⟩,.string ⟨#[]⟩,.string ⟨#[]⟩,.string ⟨#[]⟩,.string ⟨#[108,111,97,100]⟩,.string ⟨#[115,116,111,114,101]⟩,.string ⟨#[101,118,105,99,116]⟩,.string ⟨#[102,119,100,115]⟩,.string ⟨#[102,119,100,109]⟩,.string ⟨#[105,110,118]⟩,.string ⟨#[112,117,116]⟩,.string ⟨#[118,97,108,117,101]⟩,.string ⟨#[97,108,111,110,101]⟩,.string ⟨#[109,111,114,101]⟩,.string ⟨#[103,114,97,110,116]⟩,.string ⟨#[115,111,111,110]⟩,.string ⟨#[97,99,107]⟩,.string ⟨#[108,97,115,116]⟩,.string ⟨#[]⟩,.string ⟨#[116,97,107,101]⟩,.string ⟨#[97,115,107]⟩,.string ⟨#[97,115,107,109]⟩,.string ⟨#[112,117,116]⟩,.string ⟨#[103,105,118,101]⟩,.string ⟨#[99,111,112,121]⟩,.string ⟨#[105,110,118]⟩,.string ⟨#[100,111,110,101]⟩,.string ⟨#[100,111]⟩,.string ⟨#[100,114,111,112]⟩,.string ⟨#[]⟩,.string ⟨#[]⟩,.string ⟨#[]⟩,.string ⟨#[]⟩,.string ⟨#[]⟩,.string ⟨#[85,110]⟩,.string ⟨#[83,104]⟩,.string ⟨#[69,120]⟩,.string ⟨#[79,119]⟩,.string ⟨#[]⟩,.string ⟨#[]⟩,.string ⟨#[]⟩,.string ⟨#[]⟩,.string ⟨#[]⟩,.string ⟨#[]⟩,.string ⟨#[]⟩,.string ⟨#[]⟩,.string ⟨#[]⟩,.string ⟨#[]⟩,.string ⟨#[]⟩,.string ⟨#[103,101,116,115]⟩,.string ⟨#[103,101,116,109]⟩,.string ⟨#[117,112]⟩,.string ⟨#[98,97,99,107]⟩,.string ⟨#[115,116,97,108,101]⟩,.string ⟨#[]⟩,.string ⟨#[]⟩,.string ⟨#[]⟩,.string ⟨#[]⟩,.string ⟨#[]⟩,.string ⟨#[]⟩,.string ⟨#[]⟩,.string ⟨#[]⟩,.string ⟨#[]⟩,.string ⟨#[]⟩,.string ⟨#[105,110,118,115]⟩,.string ⟨#[109,101,109]⟩,.string ⟨#[97,108,111,110,101]⟩,.string ⟨#[102,119,100,115]⟩,.string ⟨#[102,119,100,109]⟩,.string ⟨#[103,114,97,110,116]⟩,.string ⟨#[119,114,105,116,101]⟩,.string ⟨#[98,97,99,107]⟩,.string ⟨#[99,108,101,97,114]⟩,.string ⟨#[110,111,116,101]⟩,.string ⟨#[98,111,116,104]⟩,.string ⟨#[111,119,110]⟩,.string ⟨#[102,114,101,101]⟩,.string ⟨#[98,117,115,121]⟩,.string ⟨#[116,119,105,99,101]⟩]:List Value):=by rfl
abbrev PS(f:FuncId):Prop:=∀{zs:List A}{dst:Option Nat}{ms:List MOp}{st:Ev.St}{k:List It}{Q:Ex->Ev.St->Prop},lI Cx f zs dst ms st k Q↔JZ Cx f (dV st.H zs) (zs.all shut) dst 0 ms st k Q
theorem aZc:PS 14:=aD rfl
theorem aZL:PS 17:=aD rfl
theorem aZK:PS 18:=aD rfl
theorem aZH:PS 29:=aD rfl
theorem aYC:PS 32:=aD rfl
theorem aZd:PS 33:=aD rfl
theorem aYL:PS 34:=aD rfl
theorem aYZ:PS 35:=aD rfl
theorem aZp:PS 36:=aD rfl
theorem aZI:PS 41:=aD rfl
theorem aY4:PS 43:=aD rfl
theorem aYW:PS 45:=aD rfl
theorem aY9:PS 46:=aD rfl
theorem aZD:PS 48:=aD rfl
theorem aYN:PS 49:=aD rfl
theorem aYE:PS 50:=aD rfl
theorem aYB:PS 59:=aD rfl
theorem aYF:PS 60:=aD rfl
theorem aY0:PS 61:=aD rfl
theorem aZG:PS 62:=aD rfl
theorem aYJ:PS 63:=aD rfl
theorem aYK:PS 65:=aD rfl
theorem aZs:PS 73:=aD rfl
theorem aYT:PS 74:=aD rfl
theorem aZy:PS 79:=aD rfl
theorem aYM:PS 81:=aD rfl
theorem aZq:PS 85:=aD rfl
theorem aZj:PS 86:=aD rfl
theorem aY1:PS 87:=aD rfl
theorem aZo:PS 89:=aD rfl
theorem aZn:PS 91:=aD rfl
theorem aYU:PS 92:=aD rfl
theorem aTu:PS 100:=aD rfl
theorem aUt:PS 107:=aD rfl
theorem aTZ:PS 109:=aD rfl
theorem aYh:PS 111:=aD rfl
theorem aVk:PS 112:=aD rfl
theorem aT0:PS 114:=aD rfl
theorem aTn:PS 116:=aD rfl
theorem aYx:PS 117:=aD rfl
theorem aUa:PS 118:=aD rfl
theorem aYA:PS 120:=aD rfl
theorem aVc:PS 123:=aD rfl
theorem aWz:PS 124:=aD rfl
theorem aXs:PS 125:=aD rfl
theorem aWy:PS 127:=aD rfl
theorem aW3:PS 130:=aD rfl
theorem aW4:PS 132:=aD rfl
theorem aV2:PS 133:=aD rfl
theorem aTs:PS 136:=aD rfl
theorem aVG:PS 139:=aD rfl
theorem aVe:PS 140:=aD rfl
theorem aVD:PS 141:=aD rfl
theorem aUo:PS 162:=aD rfl
theorem aUE:PS 166:=aD rfl
theorem aUC:PS 169:=aD rfl
theorem aWU:PS 172:=aD rfl
theorem aWw:PS 174:=aD rfl
theorem aYm:PS 175:=aD rfl
theorem aU8:PS 176:=aD rfl
theorem aXe:PS 184:=aD rfl
theorem aTD:PS 187:=aD rfl
theorem aYc:PS 188:=aD rfl
theorem aUw:PS 190:=aD rfl
theorem aXZ:PS 196:=aD rfl
theorem aV3:PS 198:=aD rfl
theorem aTg:PS 199:=aD rfl
theorem aVO:PS 200:=aD rfl
theorem aWg:PS 201:=aD rfl
theorem aUY:PS 202:=aD rfl
theorem aTM:PS 205:=aD rfl
theorem aU6:PS 210:=aD rfl
theorem aTq:PS 214:=aD rfl
theorem aXx:PS 215:=aD rfl
theorem aUr:PS 216:=aD rfl
theorem aUj:PS 222:=aD rfl
theorem aU2:PS 225:=aD rfl
theorem aVK:PS 229:=aD rfl
theorem qC:PS 252:=aD rfl
theorem aTw:PS 253:=aD rfl
theorem aVi:PS 254:=aD rfl
theorem aWt:PS 255:=aD rfl
theorem aTQ:PS 263:=aD rfl
theorem aUT:PS 274:=aD rfl
theorem aV9:PS 286:=aD rfl
theorem aVT:PS 292:=aD rfl
theorem aVM:PS 304:=aD rfl
theorem aT5:PS 307:=aD rfl
theorem aXU:PS 308:=aD rfl
theorem aUR:PS 309:=aD rfl
theorem aWi:PS 310:=aD rfl
theorem aWX:PS 318:=aD rfl
theorem aXd:PS 319:=aD rfl
theorem aXK:PS 321:=aD rfl
theorem aU1:PS 322:=aD rfl
theorem aTW:PS 323:=aD rfl
theorem aWD:PS 328:=aD rfl
theorem aT3:PS 329:=aD rfl
attribute [go_sem] g6 aYy aCS g8 g9 g10 aOW MU aNj MR g11 aKR OS aLH OA g12 g13 g14 aK3 OT aPj L3 g17 g18 g20 aJ5 NL g21 aSd MF g22 aPc M5 aOl LM aSj OM g24 g25 g26 g27 g28 g29 g30 g31 g32 g33 g34 g35 g36 g37 g38 g39 g40 aLq OX g41 g43 g44 g45 g46 g47 g48 g49 aMI NI aMm O3 g50 g52 g53 g54 g55 g56 aKt MC g57 g58 g59 g60 g61 aMU NZ aMp N9 g62 g63 g64 g65 g66 g67 g68 g69 g70 g71 g72 aJ6 O4 aS0 LW aNl M4 aK7 MS g73 aI1 NB aKm LY g74 g75 g76 g77 g78 g79 g80 g81 g82 aJW MJ aOn OI g83 g84 g85 aMH NY g86 g87 g88 g89 g90 g91 g92 g94 g95 g96 g97 g98 g99 aEG aEq G2 TL aVQ aWn ZZ aGK GL aEz D0 aMs aRj aSz aL0 aS1 aLh aI9 aQ4 aQp aSv aLK aPL aQ2 V4 aPq aL1 aGQ aF3 GV aOc aOL aJT aNd aKU aMy aMA aNv aQo aRt aEL aHy G3 aPF aL4 aQi aGh aFR EK aDc aFC FD aEH ET aLZ aJu aNC aNm aWL aWb aWd aUg aTj aUv aP8 aVa aJw aXc aXv aUq aX1 aHj aUx aUH aMc aRf aD3 aGL GT aJG aLc aKK aFB aEC ES aRs aQb aKZ aR8 aC2 aHk D5 aGO EC aSs aM6 aRw N7 aG8 EH aE7 GU aHq HC aHv EB aUA aWj aWM aKA aLg aLv aQe aRl aSc aK9 aJ2 aJo aRN aOE aN6 aGn aRp aOR aBu aHl DX aF1 G0 aEY aFF F2 aP0 aG2 aEm HE aL9 aS2 aPA aQh aSU aRd aQD aFO aGP EZ aFH aGy GW aMF aET aG9 FG aAe aGd G1 aGH EU aXG aTt aUn aVw aDV PE aEB FK aFi ED aED EM aHL HB aAf aFb FL aFA G9 aEV aEe HD aLQ aJM aFf aFM E6 aYu aJN aRH aNZ aNt aWK aQP aKG aKz aIT aOg aQj aPk aRc aP4 aPf aKk aOe aQn aN3 aLC aNA aRh aMP aLI aI5 aTf aTS aD9 aEU aND aVF aPp aL6 aG5 aGW GQ aPU aOH aJj aSC aS8 aRi aNn aJK aMf aO5 aON aVS aNH aXl aTL aSx aLs aYk aQz aRq aO8 aMd aLP aSM aRv aMi aPe aOU aJU aNT aNQ aJ9 aPT aGq aDX EV aKg aKI aMM aQl aTY aEh aFK aER E9 aE5 aFx EQ WB aUi aF6 aDT FV aSV aPG aPH aOy aMu aQ6 aYp aAQ aHC FN aEu FC aKP aPQ aSK ZA aWY aOb aNU aPZ aPy aKv aFg aEc GJ aD5 aGp D7 aKs aUe aSq aZc aZL aZK aZH aYC aZd aYL aYZ aZp aZI aY4 aYW aY9 aZD aYN aYE aYB aYF aY0 aZG aYJ aYK aZs aYT aZy aYM aZq aZj aY1 aZo aZn aYU aTu aUt aTZ aYh aVk aT0 aTn aYx aUa aYA aVc aWz aXs aWy aW3 aW4 aV2 aTs aVG aVe aVD aUo aUE aUC aWU aWw aYm aU8 aXe aTD aYc aUw aXZ aV3 aTg aVO aWg aUY aTM aU6 aTq aXx aUr aUj aU2 aVK qC aTw aVi aWt aTQ aUT aV9 aVT aVM aT5 aXU aUR aWi aWX aXd aXK aU1 aTW aWD aT3 aZw aZC aYR aY3 aZt aTJ aXy aU9 aWl aUm aXB aUX aYi aUK aXH aYa aVz aX7 aTk aXL aYv aUJ aXt aWh aWo aWe aTP aWZ aVs aVd aTA aUb aXT aXb aW5 aYf aTU aX9 aW7 aVv aWk aUk aT8 aV8 aVu aXX aXk aV6 aXj aVr aX0 aYo aR6 aQs aQ8 aQV aQH aPX aMn aTa aTd aTc aLa aLS aNx aRF aQQ aJs aM0 aP5 aRG aOI aOr aOK aKL aSJ aPD aPh aPJ aS7 aKw aQR aRT aKF aJ8 aJY aJh aN7 aJi aKV aKi aSl aR0 aMr aSn aJA aK8 aSe aNs aJB aIW aNF aQ9 aP1 aKH aRS aNe aKl aOD aMa aJV aMz aPY aRu aOQ aJb aKy aR3 aMZ aNP aO7 aRJ aJc aRO aJq aMV aLt aLR aLr aQd aSm aOO aNJ aNE aOd aOA aPr th1 th3 th4 th5 th9 aPN aJ1 aOu aRn aI4 aOp aQJ aLz aOC aOz aQI aJx aSS aJp aLe aS9 aGB aSG aIR aJ3 aMW aMh aPV aJL aOs aRr aQL aRU aKe VZ aOT aSt aS5 aQE aBq aOm aPz aMb aPs aMQ aSZ aKp aRP aLT aRe T5 aIU Y3 aCr XW aAY aBG aCn aAj XP WF W7 aAm aAJ Y2 aDf ZL KG aAZ aBO aDq X4 XA WX aCs aBH WP aCJ YT aCB aC9 aDG aDB YP aC5 WZ XN X5 YK ZG aDL aAK aA0 aCV aCP aA5 aDC X8 aBb aCW WI aB1 ZY aB6 YU aBr ZE aC7 aAA aDv ZS aDa aDd aAu aBj aC8 WM WH W8 aBa aBY aAM aB8 aAF aCi aC6 aB9 aDo ZO aAE aAO aAG Z5 aDn aDw aDJ aDF aZg aY6 aYV aZB aYS
abbrev Sv(s:ByteArray):A:=.v (.string s)
abbrev I8(n:Int):A:=.v (.int .u8 n)
abbrev I64(n:Int):A:=.v (.int .i64 n)
abbrev Bo(b:Bool):A:=.v (.bool b)
theorem mD(s:ByteArray):s.data.toList.length=s.size:=rfl
theorem aGx{T:Tb}{P:Program}{f:FuncId}{zs:List A}{H H':aF}{x y:A}(hen:xC P f)(h:oV T P f zs H x H')(hy:freeze H' 20 x=some y):oV T P f zs H y (H'.map fun _=>none):=by rcases h with⟨zs',hl,-,-,hat⟩|⟨-,hcall⟩;{refine .inr ⟨hen,fun c ys hH ok hr=>?_⟩;subst hH;obtain⟨v,h1,-⟩:=hat [] (fun g=>c.own g/\¬img c.ρ c.H g) c.w ys (pL ok (fun g hg=>hg) zs zs' ys hl hr);rw[hen]at h1;simp at h1};{refine .inr ⟨hen,fun c ys hH ok hr=>(hcall c ys hH ok hr).mono ?_⟩;rintro e w' ⟨v,c',rfl,rfl,hH',hto,ok',hR⟩;(have hno:∀g,¬img c'.ρ (c'.H.map fun _=>(none:Option Blk)) g:=by rintro g ⟨b,k,hb,-⟩;rw[de]at hb;cases h:c'.H[b]?<;>rw[h]at hb<;>simp at hb);subst hH';(have hlend:dV c'.H [x]=some [y]:=by unfold dV dV;rw[hy]);have hRL:RL c'.ρ c'.own c'.w [x] [v]:=RL.cons hR (by rw[RL]);have hy':=pL ok' (own:=fun g=>c'.own g/\¬img c'.ρ c'.H g) (fun g hg=>hg) [x] [y] [v] hlend hRL;(have hRy:R [] (fun g=>c'.own g/\¬img c'.ρ c'.H g) c'.w y v:=by rw[RL]at hy';obtain⟨v',ys',e,h1,-⟩:=hy';simp only[dt]at e;obtain⟨rfl,-⟩:=e;exact h1);refine⟨v,⟨c'.ρ,fun g=>c'.own g/\¬img c'.ρ c'.H g,c'.H.map fun _=>none,c'.w⟩,rfl,rfl,rfl,?_,?_,hRy.open_⟩;{refine⟨hto.pre,hto.size,hto.os,hto.tape,hto.output,fun g _ hi=>(hno g hi).elim,hto.same,hto.shape,hto.maps,hto.kinds,fun g hg=>⟨fun h=>(hto.own g hg).1 h.1,fun h=>?_⟩⟩;rcases(hto.own g hg).2 h with h1|h1;{by_cases hi:img c'.ρ c'.H g;{exact .inr (hto.img g hg hi)};{exact .inl ⟨h1,hi⟩}};{exact .inr h1}};{refine⟨by rw[ee];exact ok'.len,fun g hg=>ok'.lt g hg.1,fun g hi=>(hno g hi).elim,fun b e cs wh g hb hg=>?_,fun b b' k k' g hb hb'=>?_,ok'.glob.less fun g h=>h.1⟩;{exact(hno g ⟨b,_,hb,hg⟩).elim};{intro h1 h2;exact(hno g ⟨b,_,hb,h1⟩).elim}}}
noncomputable def aAa(zs:List A)(H:aF):Option (A×aF):=match(mI Cy 1000).2 (.fn 24) zs H with|some (x,H')=>(match freeze H' 20 x with|some y=>some (y,H'.map fun _=>none)|none=>none)|none=>none
theorem YV{zs:List A}{H H':aF}{x:A}(h:aAa zs H=some (x,H')):oV Cy.T Tryz.prog 24 zs H x H':=by unfold aAa at h;rw[wJ]at h;cases h1:aS.callO Cy 1000 (.fn 24) zs H with|none=>simp[h1]at h|some r=>obtain⟨x1,H1⟩:=r;simp only[h1]at h;cases h2:freeze H1 20 x1 with|none=>simp[h2]at h|some y=>simp only[h2,ac,av]at h;obtain⟨rfl,rfl⟩:=h;exact aGx (tH.enters (show Cy.B 24=some g24.fn from rfl)) ((dP tH 1000).2.fn _ _ _ _ _ h1) h2
noncomputable def aAp(f:FuncId):Option (List A->aF->Option (A×aF)):=bif Nat.beq f 24 then some aAa else RZ f
theorem aB7:∀f g zs H x H',aAp f=some g->g zs H=some (x,H')->oV Cy.T Tryz.prog f zs H x H':=by intro f g zs H x H' hg h;unfold aAp at hg;cases h1:Nat.beq f 24 with|true=>obtain rfl:=ax h1;rw[h1,bq]at hg;obtain rfl:=af hg;exact YV h|false=>rw[h1,cg]at hg;exact tH.extO f g zs H x H' hg h
abbrev i8(n:Int):A:=.v (.int .u8 n)
abbrev i64(n:Int):A:=.v (.int .i64 n)
abbrev bo(b:Bool):A:=.v (.bool b)
abbrev sA(l:Array UInt8):A:=.v (.string ⟨l⟩)
def rp(n:Nat)(l:List A):List A:=(List.replicate n l).flatten
structure IZ(a:A) where
 m:A
 h:a=m
noncomputable def CS(X:FuncId->List A->Option A):Ctx:=⟨Cy.T,Cy.B,X,aAp⟩
theorem aIJ{X:FuncId->List A->Option A}(h:QOk Cy.T Tryz.prog X):jF Tryz.prog (CS X):=⟨tH.mixed,tH.types,tH.loops,tH.fns,h,aB7⟩
theorem aIM:QOk Cy.T Tryz.prog zT:=tH.ext
def SJ:List (List A×A)->List A->Option A|[],_=>none|p::l,zs=>bif eqL p.1 zs then some p.2 else SJ l zs
theorem DQ:∀{l:List (List A×A)}{zs:List A}{r:A},SJ l zs=some r->(zs,r)∈l|[],_,_,h=>by cases h|p::l,zs,r,h=>by unfold SJ at h;cases hb:eqL p.1 zs with|true=>simp only[hb,bq,ac]at h;rw[<-h,<-lT _ _ hb];exact .head _|false=>simp only[hb,cg]at h;exact .tail _ (DQ h)
def orX(f0:Nat)(t:List (List A×A))(X:FuncId->List A->Option A)(f:FuncId)(zs:List A):Option A:=bif Nat.beq f f0 then SJ t zs else X f zs
theorem wW{X0 X:FuncId->List A->Option A}{f0:Nat}{t:List (List A×A)}(h0:QOk Cy.T Tryz.prog X0)(ht:∀p∈t,EvQ (CS X0) f0 p.1 p.2)(hX:QOk Cy.T Tryz.prog X):QOk Cy.T Tryz.prog (orX f0 t X):=by intro f zs r h;unfold orX at h;cases hb:Nat.beq f f0 with|false=>simp only[hb,cg]at h;exact hX f zs r h|true=>obtain rfl:=ax hb;simp only[hb,bq]at h;obtain⟨N,hN⟩:=ht _ (DQ h);exact(dP (aIJ h0) N).1 f zs r hN
set_option maxRecDepth 1000000
def aHV:List A:=[(.agg ([sA #[109,115,105],i8 1,i8 5,(.v (.int .u16 2)),i8 1,i8 6,(.v (.int .u16 4))]++rp 3 [i8 3,i8 0,(.v (.int .u16 0))]++[i8 1,i8 0,(.v (.int .u16 64))]++rp 8 [i8 3,i8 0,(.v (.int .u16 0))]++[i8 1,i8 1,(.v (.int .u16 256)),i8 1,i8 7,(.v (.int .u16 4)),i8 1,i8 0,(.v (.int .u16 512)),i8 3,i8 0,(.v (.int .u16 0)),i8 3,i8 0,(.v (.int .u16 0)),i8 1,i8 0,(.v (.int .u16 576))]++rp 36 [i8 3,i8 0,(.v (.int .u16 0))]++[i8 1,i8 4,(.v (.int .u16 256)),i8 1,i8 4,(.v (.int .u16 256)),i8 1,i8 10,(.v (.int .u16 8)),i8 1,i8 1,(.v (.int .u16 48)),i8 1,i8 0,(.v (.int .u16 528))]++rp 9 [i8 3,i8 0,(.v (.int .u16 0))]++rp 3 [i8 2,i8 0,(.v (.int .u16 0))]++[i8 3,i8 0,(.v (.int .u16 0)),i8 3,i8 0,(.v (.int .u16 0)),i8 1,i8 5,(.v (.int .u16 64)),i8 3,i8 0,(.v (.int .u16 0)),i8 1,i8 1,(.v (.int .u16 385))]++rp 6 [i8 3,i8 0,(.v (.int .u16 0))]++rp 3 [i8 2,i8 0,(.v (.int .u16 0))]++[i8 3,i8 0,(.v (.int .u16 0)),i8 3,i8 0,(.v (.int .u16 0)),i8 1,i8 6,(.v (.int .u16 64)),i8 3,i8 0,(.v (.int .u16 0)),i8 1,i8 4,(.v (.int .u16 385)),i8 3,i8 0,(.v (.int .u16 0)),i8 1,i8 9,(.v (.int .u16 1)),i8 3,i8 0,(.v (.int .u16 0)),i8 3,i8 0,(.v (.int .u16 0)),i8 1,i8 6,(.v (.int .u16 0)),i8 3]++rp 3 [i8 0,(.v (.int .u16 0)),i8 2]++[i8 0,(.v (.int .u16 0)),i8 3,i8 0,(.v (.int .u16 0)),i8 3,i8 0,(.v (.int .u16 0)),i8 1,i8 6,(.v (.int .u16 64)),i8 3,i8 0,(.v (.int .u16 0)),i8 1,i8 4,(.v (.int .u16 385)),i8 3,i8 0,(.v (.int .u16 0)),i8 1,i8 9,(.v (.int .u16 1)),i8 3,i8 0,(.v (.int .u16 0)),i8 3,i8 0,(.v (.int .u16 0)),i8 1,i8 7]++rp 15 [(.v (.int .u16 0)),i8 3,i8 0]++rp 3 [(.v (.int .u16 0)),i8 2,i8 0]++rp 9 [(.v (.int .u16 0)),i8 3,i8 0]++[(.v (.int .u16 0)),i8 1,i8 9,(.v (.int .u16 0)),i8 1,i8 4,(.v (.int .u16 384))]++rp 3 [i8 2,i8 0,(.v (.int .u16 0))]++[i8 1,i8 11,(.v (.int .u16 48)),i8 1,i8 11,(.v (.int .u16 16)),i8 1,i8 11,(.v (.int .u16 64)),i8 1,i8 0,(.v (.int .u16 512))]++rp 7 [i8 3,i8 0,(.v (.int .u16 0))]++rp 3 [i8 2,i8 0,(.v (.int .u16 0))]++[i8 3,i8 0,(.v (.int .u16 0)),i8 3,i8 0,(.v (.int .u16 0)),i8 1,i8 11,(.v (.int .u16 64)),i8 1,i8 0,(.v (.int .u16 512))]++rp 7 [i8 3,i8 0,(.v (.int .u16 0))]++[i8 1,i8 1,(.v (.int .u16 8706)),i8 1,i8 2,(.v (.int .u16 10242)),i8 3,i8 0,(.v (.int .u16 0)),i8 3,i8 0,(.v (.int .u16 0)),i8 1,i8 0,(.v (.int .u16 128)),i8 1,i8 1,(.v (.int .u16 8706)),i8 1,i8 2,(.v (.int .u16 10499)),i8 3,i8 0,(.v (.int .u16 0)),i8 3,i8 0,(.v (.int .u16 0)),i8 1,i8 1,(.v (.int .u16 128)),i8 1,i8 1,(.v (.int .u16 26120)),i8 1,i8 2,(.v (.int .u16 10256)),i8 3,i8 0,(.v (.int .u16 0)),i8 1,i8 0,(.v (.int .u16 4288)),i8 1,i8 2,(.v (.int .u16 128))]++rp 5 [i8 3,i8 0,(.v (.int .u16 0))]))]
def aHQ:A:=(bo true)
theorem aWO:EvQ (CS zT) 61 aHV aHQ:=aT 100000 (by kernel_rfl)
def aLV:List (List A×A):=[(aHV,aHQ)]
theorem aEp:∀p∈aLV,EvQ (CS zT) 61 p.1 p.2:=by unfold aLV;simp only[jh,jn,kn,lm,iu];exact aWO
def Y35:FuncId->List A->Option A:=orX 61 aLV zT
theorem XS:QOk Cy.T Tryz.prog Y35:=wW aIM aEp aIM
def gv0:IZ (.agg ([sA #[116],(.sl 1 [sA #[120]]),(.sl 1 [i8 0]),(.sl 2 [(.sl 1 [i8 2,i8 0,i8 0,bo false,i8 1,bo false,i8 0,i8 0,i8 0,i8 0]),(.sl 1 [i8 1,i8 0,i8 0,bo false,i8 0,bo false,i8 0,i8 0,i8 0,i8 0])]),i8 1,i8 0,i8 0,i8 0,i8 0,(.v (.slice none 0 0)),i64 2,i64 1,i64 1,i64 1,i64 1,i8 1,i8 1,i8 1,i64 0,bo false,sA #[109,115,105],i8 1,i8 5,(.v (.int .u16 2)),i8 1,i8 6,(.v (.int .u16 4))]++rp 3 [i8 3,i8 0,(.v (.int .u16 0))]++[i8 1,i8 0,(.v (.int .u16 64))]++rp 8 [i8 3,i8 0,(.v (.int .u16 0))]++[i8 1,i8 1,(.v (.int .u16 256)),i8 1,i8 7,(.v (.int .u16 4)),i8 1,i8 0,(.v (.int .u16 512)),i8 3,i8 0,(.v (.int .u16 0)),i8 3,i8 0,(.v (.int .u16 0)),i8 1,i8 0,(.v (.int .u16 576))]++rp 36 [i8 3,i8 0,(.v (.int .u16 0))]++[i8 1,i8 4,(.v (.int .u16 256)),i8 1,i8 4,(.v (.int .u16 256)),i8 1,i8 10,(.v (.int .u16 8)),i8 1,i8 1,(.v (.int .u16 48)),i8 1,i8 0,(.v (.int .u16 528))]++rp 9 [i8 3,i8 0,(.v (.int .u16 0))]++rp 3 [i8 2,i8 0,(.v (.int .u16 0))]++[i8 3,i8 0,(.v (.int .u16 0)),i8 3,i8 0,(.v (.int .u16 0)),i8 1,i8 5,(.v (.int .u16 64)),i8 3,i8 0,(.v (.int .u16 0)),i8 1,i8 1,(.v (.int .u16 385))]++rp 6 [i8 3,i8 0,(.v (.int .u16 0))]++rp 3 [i8 2,i8 0,(.v (.int .u16 0))]++[i8 3,i8 0,(.v (.int .u16 0)),i8 3,i8 0,(.v (.int .u16 0)),i8 1,i8 6,(.v (.int .u16 64)),i8 3,i8 0,(.v (.int .u16 0)),i8 1,i8 4,(.v (.int .u16 385)),i8 3,i8 0,(.v (.int .u16 0)),i8 1,i8 9,(.v (.int .u16 1)),i8 3,i8 0,(.v (.int .u16 0)),i8 3,i8 0,(.v (.int .u16 0)),i8 1,i8 6,(.v (.int .u16 0)),i8 3]++rp 3 [i8 0,(.v (.int .u16 0)),i8 2]++[i8 0,(.v (.int .u16 0)),i8 3,i8 0,(.v (.int .u16 0)),i8 3,i8 0,(.v (.int .u16 0)),i8 1,i8 6,(.v (.int .u16 64)),i8 3,i8 0,(.v (.int .u16 0)),i8 1,i8 4,(.v (.int .u16 385)),i8 3,i8 0,(.v (.int .u16 0)),i8 1,i8 9,(.v (.int .u16 1)),i8 3,i8 0,(.v (.int .u16 0)),i8 3,i8 0,(.v (.int .u16 0)),i8 1,i8 7]++rp 15 [(.v (.int .u16 0)),i8 3,i8 0]++rp 3 [(.v (.int .u16 0)),i8 2,i8 0]++rp 9 [(.v (.int .u16 0)),i8 3,i8 0]++[(.v (.int .u16 0)),i8 1,i8 9,(.v (.int .u16 0)),i8 1,i8 4,(.v (.int .u16 384))]++rp 3 [i8 2,i8 0,(.v (.int .u16 0))]++[i8 1,i8 11,(.v (.int .u16 48)),i8 1,i8 11,(.v (.int .u16 16)),i8 1,i8 11,(.v (.int .u16 64)),i8 1,i8 0,(.v (.int .u16 512))]++rp 7 [i8 3,i8 0,(.v (.int .u16 0))]++rp 3 [i8 2,i8 0,(.v (.int .u16 0))]++[i8 3,i8 0,(.v (.int .u16 0)),i8 3,i8 0,(.v (.int .u16 0)),i8 1,i8 11,(.v (.int .u16 64)),i8 1,i8 0,(.v (.int .u16 512))]++rp 7 [i8 3,i8 0,(.v (.int .u16 0))]++[i8 1,i8 1,(.v (.int .u16 8706)),i8 1,i8 2,(.v (.int .u16 10242)),i8 3,i8 0,(.v (.int .u16 0)),i8 3,i8 0,(.v (.int .u16 0)),i8 1,i8 0,(.v (.int .u16 128)),i8 1,i8 1,(.v (.int .u16 8706)),i8 1,i8 2,(.v (.int .u16 10499)),i8 3,i8 0,(.v (.int .u16 0)),i8 3,i8 0,(.v (.int .u16 0)),i8 1,i8 1,(.v (.int .u16 128)),i8 1,i8 1,(.v (.int .u16 26120)),i8 1,i8 2,(.v (.int .u16 10256)),i8 3,i8 0,(.v (.int .u16 0)),i8 1,i8 0,(.v (.int .u16 4288)),i8 1,i8 2,(.v (.int .u16 128))]++rp 5 [i8 3,i8 0,(.v (.int .u16 0))])):=by refine⟨?m,?h⟩;case h=>conv=>lhs;cbv
def v0:A:=gv0.m
def aWq:List A:=[v0]
def aWc:A:=(bo true)
theorem aZa:EvQ (CS Y35) 29 aWq aWc:=aT 100000 (by kernel_rfl)
def mt9:List (List A×A):=[(aWq,aWc)]
theorem aIX:∀p∈mt9,EvQ (CS Y35) 29 p.1 p.2:=by unfold mt9;simp only[jh,jn,kn,lm,iu];exact aZa
def Y9:FuncId->List A->Option A:=orX 29 mt9 Y35
theorem aHS:QOk Cy.T Tryz.prog Y9:=wW XS aIX XS
def gv1:IZ (.agg ([(.sl 2 (rp 2 (rp 9 [i8 0]++[(.sl 0 []),bo false,bo false]))),(.sl 2 (rp 16 [i8 0,i8 0,(.v (.int .i8 0)),bo false,i8 0,i8 0,i8 0,i8 0]++[i8 1,i64 1]++rp 3 [i8 0,i8 0,i8 0,i8 0,i8 0,i8 0,i64 0]++rp 11 [i8 0]++rp 15 [(.v (.int .i8 0)),bo false,i8 0,i8 0,i8 0,i8 0,i8 0,i8 0]++[(.v (.int .i8 0)),bo false,i8 0,i8 0,i8 0,i8 0,i8 1,i64 1]++rp 3 [i8 0,i8 0,i8 0,i8 0,i8 0,i8 0,i64 0]++rp 9 [i8 0]))]++rp 6 [i8 0,i8 255,i8 1,(.v (.int .u64 0)),bo false,i8 0,i8 0,i8 0,i8 0,i8 0,i8 0]++[(.sl 0 [])])):=by refine⟨?m,?h⟩;case h=>conv=>lhs;cbv
def v1:A:=gv1.m
def aIs:List A:=[v0]
def aIN:A:=(.tup [v1,i64 0])
theorem aXE:EvQ (CS Y9) 10 aIs aIN:=aT 100000 (by kernel_rfl)
def aSP:List (List A×A):=[(aIs,aIN)]
theorem aF0:∀p∈aSP,EvQ (CS Y9) 10 p.1 p.2:=by unfold aSP;simp only[jh,jn,kn,lm,iu];exact aXE
def Y17:FuncId->List A->Option A:=orX 10 aSP Y9
theorem aDh:QOk Cy.T Tryz.prog Y17:=wW aHS aF0 aHS
