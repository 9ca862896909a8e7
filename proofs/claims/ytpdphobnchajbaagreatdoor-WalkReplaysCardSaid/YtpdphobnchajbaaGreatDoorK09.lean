/- format at a step without a message. -/
import Derived.Test.YtpdphobnchajbaaGreatDoorK08
set_option linter.all false
namespace Go.Proofs.YtpdphobnchajbaaGreatDoor.Ev
open Go Go.RowKit
set_option maxRecDepth 100000
theorem aM9:IntKind.i64.max=9223372036854775807:=rfl
theorem ZZ(l:Array UInt8):(ByteArray.mk l).size=l.size:=rfl
theorem MV(l:List UInt8):(Array.mk l).size=l.length:=rfl
def nL:ByteArray:=⟨#[99,111,114,101]⟩
def kF:ByteArray:=⟨#[100,114,97,105,110]⟩
def uE:ByteArray:=⟨#[116,114,121]⟩
def fX:ByteArray:=⟨#[101,118,105,99,116]⟩
def lT:ByteArray:=⟨#[109,115,103]⟩
def sSp:ByteArray:=⟨#[32]⟩
theorem aVX:nL.size=4:=rfl
theorem aQZ:kF.size=5:=rfl
theorem aYV:uE.size=3:=rfl
theorem aQb:fX.size=5:=rfl
theorem aZb:lT.size=3:=rfl
attribute [go_sem] aM9 ZZ MV aVX aQZ aYV aQb aZb ByteArray.size_append if_false
theorem qJ:EvQ Cx 92 [I8 1] (Sv nL):=aS 100 (by kernel_rfl)
theorem rF:EvQ Cx 92 [I8 2] (Sv kF):=aS 100 (by kernel_rfl)
theorem qL:EvQ Cx 92 [I8 3] (Sv uE):=aS 100 (by kernel_rfl)
theorem qW:EvQ Cx 92 [I8 4] (Sv fX):=aS 100 (by kernel_rfl)
theorem qM:EvQ Cx 92 [I8 5] (Sv lT):=aS 100 (by kernel_rfl)
def bE(n:Int):ByteArray:=⟨(dig n.toNat).toArray⟩
theorem bD{n:Int}(h:0<=n/\n<1000):(bE n).size<=3:=by unfold bE dig;show List.length _<=3;cases Nat.blt n.toNat 10<;>cases Nat.blt n.toNat 100<;>simp
theorem PW{n:Int}(h:0<=n/\n<1000):EvQ Cx 90 [I64 n] (Sv (bE n)):=by refine mY ?_;have hx:Cx.X 90=pS 90:=rfl;have e1:Nat.beq 90 155=false:=rfl;rw[hx];simp[pS,e1,T0,h,bE]
theorem p40:g7 Cx 90=false:=rfl
theorem sU{n:Int}(h:0<=n/\n<256):EvQ Cx 89 [I8 n] (Sv (bE n)):=by refine evF aUV ?_;have hi:=PW (n:=n) (by omega);simp(disch:=omega)only[go_sem,simprocAttr,aD p40,QK.use hi]
def mz:List A:=[I8 0,I8 0,I8 0,I8 0,I8 0,I8 0,Bo false,I8 0,I8 0,I8 0,I8 0]
def stA(k n l:Int)(m:List A):A:=.agg (I8 k::I8 n::I8 l::m)
theorem aSS{n l:Int}(hn:0<=n/\n<256):EvQ Cx 50 [stA 1 n l mz] (.tup [Sv (nL++sSp++bE n),Bo (l==0)]):=by refine evF qO ?_;have hd:=sU hn;have hs:=bD (n:=n) (by omega);simp(disch:=omega)only[go_sem,simprocAttr,stA,mz,aI CK rfl,QK.use qJ,QK.use hd];rfl
theorem aVO{n l:Int}(hn:0<=n/\n<256):EvQ Cx 50 [stA 2 n l mz] (.tup [Sv (kF++sSp++bE n),Bo (l==0)]):=by refine evF qO ?_;have hd:=sU hn;have hs:=bD (n:=n) (by omega);simp(disch:=omega)only[go_sem,simprocAttr,stA,mz,aI CK rfl,QK.use rF,QK.use hd];rfl
theorem aT7{n l:Int}(hn:0<=n/\n<256):EvQ Cx 50 [stA 3 n l mz] (.tup [Sv (uE++sSp++bE n),Bo (l==0)]):=by refine evF qO ?_;have hd:=sU hn;have hs:=bD (n:=n) (by omega);simp(disch:=omega)only[go_sem,simprocAttr,stA,mz,aI CK rfl,QK.use qL,QK.use hd];rfl
theorem aTW{n l:Int}(hn:0<=n/\n<256)(hl:0<=l/\l<256):EvQ Cx 50 [stA 4 n l mz] (.tup [Sv (fX++sSp++bE n++sSp++bE l),Bo true]):=by refine evF qO ?_;have hd:=sU hn;have hs:=bD (n:=n) (by omega);have hd':=sU hl;have hs':=bD (n:=l) (by omega);simp(disch:=omega)only[go_sem,simprocAttr,stA,mz,aI aLr rfl,QK.use qW,QK.use hd,QK.use hd'];rfl
def dS(k f t l a c:Int)(b:Bool)(d0 d1 d2 d3:Int):List A:=[I8 k,I8 f,I8 t,I8 l,I8 a,I8 c,Bo b,I8 d0,I8 d1,I8 d2,I8 d3]
theorem aWK{k f t l a c d0 d1 d2 d3:Int}{b:Bool}{s:ByteArray}(hs:s.size<=1000)(h:EvQ Cx 95 [.agg (dS k f t l a c b d0 d1 d2 d3)] (Sv s)):EvQ Cx 50 [stA 5 0 0 (dS k f t l a c b d0 d1 d2 d3)] (.tup [Sv (lT++sSp++s),Bo true]):=by(have h4:EvQ Cx 94 [stA 5 0 0 (dS k f t l a c b d0 d1 d2 d3)] (.tup [Sv (lT++sSp++s),Bo true]):=by refine evF aLn ?_;unfold dS at h;simp(disch:=omega)only[go_sem,simprocAttr,stA,dS,QK.use qM,QK.use h];rfl);refine evF qO ?_;unfold stA dS at h4;simp(disch:=omega)only[go_sem,simprocAttr,stA,dS,QK.use h4]
