/- book.Make: the tables of the texts. -/
import Derived.Test.YtfkegfjggibdhaaGreatDoorV15
import Derived.Test.YtfkegfjggibdhaaGreatDoorV29
set_option linter.all false
namespace Go.Proofs.YtfkegfjggibdhaaGreatDoor.Ev
open Go Go.RowKit
set_option maxRecDepth 1000000
def aZt(z:Ce):List Value:=bif decide (z.rule=1)then[.int .u8 1,.int .u8 z.to,.int .u16 z.acts]else[.int .u8 0,.int .u8 0,.int .u16 0]
def oK(b:Nat):List Value:=.string (nmP b)::((bJ b).C++(bJ b).H).flatMap aZt
def jA(b:Nat):List Nat:=(List.range 188).filter fun i=>match((bJ b).C++(bJ b).H)[i]? with|some z=>!decide (z.rule=1)|none=>false
def wtB(b i:Nat):Bool:=!(pH i)&&(Nat.ble (pO i) 2&&(Nat.beq (pS i) 5||(Nat.beq (pS i) 6||(Nat.beq (pS i) 7||(Nat.beq (pS i) 9||(Nat.beq (pS i) 10||(Nat.beq (pS i) 11||(Nat.beq b 3&&Nat.beq (pS i) 8))))))))
def Q9(b:Nat):List (List A×A):=(List.range 188).map fun i=>([I8 b,gU i],Bo (wtB b i))
def HS(b:Nat):Bool:=Nat.beq (oK b).length 565&&(cG ((oK b).map .v)&&((jA b).all (fun i=>Nat.blt i 188)&&(Nat.ble (jA b).length 1000&&((nmP b).toList==({data:=#[]}:ByteArray).toList)==false&&eqL ((qG (wtB b) (jA b) (oK b)).map .v) (cT9 (bJ b)))))
