/- format at a step without a message. -/
import Derived.Test.YtijpomemobgddaaGreatDoorS1
set_option linter.unusedSimpArgs false
set_option linter.unusedVariables false
namespace Go.Proofs.YtijpomemobgddaaGreatDoor.Ev
open Go Go.RowKit
set_option maxRecDepth 100000
theorem i64max : IntKind.i64.max = 9223372036854775807 := rfl
theorem sz_mk (l : Array UInt8) : (ByteArray.mk l).size = l.size := rfl
theorem sz_arr (l : List UInt8) : (Array.mk l).size = l.length := rfl
def sCore : ByteArray := ⟨#[99, 111, 114, 101]⟩
def sDrain : ByteArray := ⟨#[100, 114, 97, 105, 110]⟩
def sTry : ByteArray := ⟨#[116, 114, 121]⟩
def sEvict : ByteArray := ⟨#[101, 118, 105, 99, 116]⟩
def sMsg : ByteArray := ⟨#[109, 115, 103]⟩
def sSp : ByteArray := ⟨#[32]⟩
theorem zCore : sCore.size = 4 := rfl
theorem zDrain : sDrain.size = 5 := rfl
theorem zTry : sTry.size = 3 := rfl
theorem zEvict : sEvict.size = 5 := rfl
theorem zMsg : sMsg.size = 3 := rfl
attribute [go_sem] i64max sz_mk sz_arr zCore zDrain zTry zEvict zMsg ByteArray.size_append if_false
theorem word1 : EvQ Cx 36 [I8 1] (Sv sCore) := evQ_fast 100 (by kernel_rfl)
theorem word2 : EvQ Cx 36 [I8 2] (Sv sDrain) := evQ_fast 100 (by kernel_rfl)
theorem word3 : EvQ Cx 36 [I8 3] (Sv sTry) := evQ_fast 100 (by kernel_rfl)
theorem word4 : EvQ Cx 36 [I8 4] (Sv sEvict) := evQ_fast 100 (by kernel_rfl)
theorem word5 : EvQ Cx 36 [I8 5] (Sv sMsg) := evQ_fast 100 (by kernel_rfl)
def digB (n : Int) : ByteArray := ⟨(dig n.toNat).toArray⟩
theorem digB_size {n : Int} (h : 0 ≤ n ∧ n < 1000) : (digB n).size ≤ 3 := by
  unfold digB dig
  show List.length _ ≤ 3
  cases Nat.blt n.toNat 10 <;> cases Nat.blt n.toNat 100 <;> simp
theorem itoa_ev {n : Int} (h : 0 ≤ n ∧ n < 1000) : EvQ Cx 40 [I64 n] (Sv (digB n)) := by
  refine evQ_ext ?_
  have hx : Cx.X = xLibs := rfl
  have e1 : Nat.beq 40 69 = false := rfl
  rw [hx]
  simp [xLibs, e1, itoaX, h, digB]
theorem p40 : isPass Cx 40 = false := rfl
theorem dig_ev {n : Int} (h : 0 ≤ n ∧ n < 256) : EvQ Cx 39 [I8 n] (Sv (digB n)) := by
  refine evQ_of CxB39 rfl (by simp [fn39]) ?_
  have hi := itoa_ev (n := n) (by omega)
  simp (config := { maxSteps := 10000000 }) (disch := omega) only [go_sem, simprocAttr, passK_shut p40, QK.use hi]
def mz : List A := [I8 0, I8 0, I8 0, I8 0, I8 0, I8 0, Bo false, I8 0, I8 0, I8 0, I8 0]
def stA (k n l : Int) (m : List A) : A := .agg (I8 k :: I8 n :: I8 l :: m)
theorem fmt1 {n l : Int} (hn : 0 ≤ n ∧ n < 256) : EvQ Cx 19 [stA 1 n l mz] (.tup [Sv (sCore ++ sSp ++ digB n), Bo (l == 0)]) := by
  refine evQ_of CxB19 rfl (by simp [fn19]) ?_
  have hd := dig_ev hn
  have hs := digB_size (n := n) (by omega)
  simp (config := { maxSteps := 10000000 }) (disch := omega) only [go_sem, simprocAttr, stA, mz, passK_in CxB41 CxP41, passK_shut CxP36, QK.use word1, passK_shut CxP39, QK.use hd]
  rfl
theorem fmt2 {n l : Int} (hn : 0 ≤ n ∧ n < 256) : EvQ Cx 19 [stA 2 n l mz] (.tup [Sv (sDrain ++ sSp ++ digB n), Bo (l == 0)]) := by
  refine evQ_of CxB19 rfl (by simp [fn19]) ?_
  have hd := dig_ev hn
  have hs := digB_size (n := n) (by omega)
  simp (config := { maxSteps := 10000000 }) (disch := omega) only [go_sem, simprocAttr, stA, mz, passK_in CxB41 CxP41, passK_shut CxP36, QK.use word2, passK_shut CxP39, QK.use hd]
  rfl
theorem fmt3 {n l : Int} (hn : 0 ≤ n ∧ n < 256) : EvQ Cx 19 [stA 3 n l mz] (.tup [Sv (sTry ++ sSp ++ digB n), Bo (l == 0)]) := by
  refine evQ_of CxB19 rfl (by simp [fn19]) ?_
  have hd := dig_ev hn
  have hs := digB_size (n := n) (by omega)
  simp (config := { maxSteps := 10000000 }) (disch := omega) only [go_sem, simprocAttr, stA, mz, passK_in CxB41 CxP41, passK_shut CxP36, QK.use word3, passK_shut CxP39, QK.use hd]
  rfl
theorem fmt4 {n l : Int} (hn : 0 ≤ n ∧ n < 256) (hl : 0 ≤ l ∧ l < 256) : EvQ Cx 19 [stA 4 n l mz] (.tup [Sv (sEvict ++ sSp ++ digB n ++ sSp ++ digB l), Bo true]) := by
  refine evQ_of CxB19 rfl (by simp [fn19]) ?_
  have hd := dig_ev hn
  have hs := digB_size (n := n) (by omega)
  have hd' := dig_ev hl
  have hs' := digB_size (n := l) (by omega)
  simp (config := { maxSteps := 10000000 }) (disch := omega) only [go_sem, simprocAttr, stA, mz, passK_in CxB42 CxP42, passK_shut CxP36, QK.use word4, passK_shut CxP39, QK.use hd, QK.use hd']
  rfl
def msgA (k f t l a c : Int) (b : Bool) (d0 d1 d2 d3 : Int) : List A := [I8 k, I8 f, I8 t, I8 l, I8 a, I8 c, Bo b, I8 d0, I8 d1, I8 d2, I8 d3]
theorem fmt5 {k f t l a c d0 d1 d2 d3 : Int} {b : Bool} {s : ByteArray} (hs : s.size ≤ 1000) (h : EvQ Cx 44 [.agg (msgA k f t l a c b d0 d1 d2 d3)] (Sv s)) : EvQ Cx 19 [stA 5 0 0 (msgA k f t l a c b d0 d1 d2 d3)] (.tup [Sv (sMsg ++ sSp ++ s), Bo true]) := by
  have h4 : EvQ Cx 43 [stA 5 0 0 (msgA k f t l a c b d0 d1 d2 d3)] (.tup [Sv (sMsg ++ sSp ++ s), Bo true]) := by
    refine evQ_of CxB43 rfl (by simp [fn43]) ?_
    unfold msgA at h
    simp (config := { maxSteps := 10000000 }) (disch := omega) only [go_sem, simprocAttr, stA, msgA, passK_shut CxP36, QK.use word5, passK_shut CxP44, QK.use h]
    rfl
  refine evQ_of CxB19 rfl (by simp [fn19]) ?_
  unfold stA msgA at h4
  simp (config := { maxSteps := 10000000 }) (disch := omega) only [go_sem, simprocAttr, stA, msgA, passK_shut CxP43, QK.use h4]
end Go.Proofs.YtijpomemobgddaaGreatDoor.Ev
