/- book.Make: the tables of the texts. -/
import Derived.Test.YtfkegfjggibdhaaGreatDoorN17
import Derived.Test.YtfkegfjggibdhaaGreatDoorN31
set_option linter.all false
namespace Go.Proofs.YtfkegfjggibdhaaGreatDoor.Ev
open Go Go.RowKit
set_option maxRecDepth 1000000
def aYX(z:Ce):List Value:=bif decide (z.rule=1)then[.int .u8 1,.int .u8 z.to,.int .u16 z.acts]else[.int .u8 0,.int .u8 0,.int .u16 0]
def oC(b:Nat):List Value:=.string (nmP b)::((bH b).C++(bH b).H).flatMap aYX
def iZ(b:Nat):List Nat:=(List.range 188).filter fun i=>match((bH b).C++(bH b).H)[i]? with|some z=>!decide (z.rule=1)|none=>false
def wtB(b i:Nat):Bool:=!(pH i)&&(Nat.ble (pO i) 2&&(Nat.beq (pS i) 5||(Nat.beq (pS i) 6||(Nat.beq (pS i) 7||(Nat.beq (pS i) 9||(Nat.beq (pS i) 10||(Nat.beq (pS i) 11||(Nat.beq b 3&&Nat.beq (pS i) 8))))))))
def Q7(b:Nat):List (List A×A):=(List.range 188).map fun i=>([I8 b,gP i],Bo (wtB b i))
def IT(b:Nat):Bool:=Nat.beq (oC b).length 565&&(bW ((oC b).map .v)&&((iZ b).all (fun i=>Nat.blt i 188)&&(Nat.ble (iZ b).length 1000&&((nmP b).toList==({data:=#[]}:ByteArray).toList)==false&&eqL ((pZ (wtB b) (iZ b) (oC b)).map .v) (cT9 (bH b)))))
