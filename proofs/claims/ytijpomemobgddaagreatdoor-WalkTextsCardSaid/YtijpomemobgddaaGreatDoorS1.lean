/- strings.Cut at one letter. -/
import Derived.Test.YtijpomemobgddaaGreatDoorC1
set_option linter.unusedSimpArgs false
set_option linter.unusedVariables false
namespace Go.Proofs.YtijpomemobgddaaGreatDoor.Ev
open Go Go.RowKit
set_option maxRecDepth 100000
abbrev Sv (s : ByteArray) : A := .v (.string s)
abbrev I8 (n : Int) : A := .v (.int .u8 n)
abbrev I64 (n : Int) : A := .v (.int .i64 n)
abbrev Bo (b : Bool) : A := .v (.bool b)
theorem ba1_get (c : UInt8) : (⟨#[c]⟩ : ByteArray)[0]? = some c := rfl
theorem ba1_size (c : UInt8) : (⟨#[c]⟩ : ByteArray).size = 1 := rfl
theorem idxB_ge (c : Nat) : ∀ (l : List UInt8) (i : Int), 0 ≤ i → -1 ≤ idxB c l i
  | [], i, h => by simp [idxB]
  | b :: l, i, h => by
    unfold idxB
    cases Nat.beq b.toNat c with
    | true => simp only [cond_true]; omega
    | false => exact idxB_ge c l (i + 1) (by omega)
theorem idxB_lt (c : Nat) : ∀ (l : List UInt8) (i : Int), 0 ≤ i → idxB c l i < i + l.length ∨ idxB c l i = -1
  | [], i, h => by simp [idxB]
  | b :: l, i, h => by
    unfold idxB
    cases Nat.beq b.toNat c with
    | true => simp only [cond_true, List.length_cons]; omega
    | false =>
      rcases idxB_lt c l (i + 1) (by omega) with h1 | h1
      · left
        simp only [cond_false, List.length_cons]
        omega
      · right
        exact h1
theorem size_data (s : ByteArray) : s.data.toList.length = s.size := rfl
/-- What stands before a letter, behind it, and whether it is there. -/
def cutA (c : Nat) (s : ByteArray) : ByteArray × ByteArray × Bool := if 0 ≤ idxB c s.data.toList 0 then (s.extract 0 (idxB c s.data.toList 0).toNat, s.extract ((idxB c s.data.toList 0).toNat + 1) s.size, true) else (s, .empty, false)
theorem xIdx {s : ByteArray} {c : UInt8} : EvQ Cx 208 [Sv s, I8 c.toNat] (I64 (idxB c.toNat s.data.toList 0)) := by
  refine evQ_ext ?_
  have h : (0 : Int) ≤ c.toNat ∧ (c.toNat : Int) ≤ 255 := by have := c.toNat_lt; omega
  have hx : Cx.X = xLibs := rfl
  have e1 : Nat.beq 208 69 = false := rfl
  have e2 : Nat.beq 208 40 = false := rfl
  have e3 : Nat.beq 208 38 = false := rfl
  rw [hx]
  simp [xLibs, xLib, h, e1, e2, e3]
theorem p208 : isPass Cx 208 = false := rfl
theorem idx_ev (s : ByteArray) (c : UInt8) : EvQ Cx 146 [Sv s, I8 c.toNat] (I64 (idxB c.toNat s.data.toList 0)) := by
  refine evQ_of CxB146 rfl (by simp [fn146]) ?_
  simp (config := { maxSteps := 10000000 }) (disch := omega) only [go_sem, simprocAttr, passK_shut p208, QK.use xIdx]
theorem index_ev (s : ByteArray) (c : UInt8) : EvQ Cx 97 [Sv s, Sv ⟨#[c]⟩] (I64 (idxB c.toNat s.data.toList 0)) := by
  have h0 : ((⟨#[c]⟩ : ByteArray).toList == s.toList) = true → idxB c.toNat s.data.toList 0 = 0 := by
    intro h
    have h := eq_of_beq h
    rw [ByteArray.toList_eq, ByteArray.toList_eq] at h
    rw [← h]
    simp [idxB]
  refine evQ_of CxB97 rfl (by simp [fn97]) ?_
  cases hb : ((⟨#[c]⟩ : ByteArray).toList == s.toList) with
  | true =>
    have h1 := h0 hb
    simp (config := { maxSteps := 10000000 }) (disch := omega) only [go_sem, simprocAttr, ba1_get, ba1_size, hb, h1]
  | false => simp (config := { maxSteps := 10000000 }) (disch := omega) only [go_sem, simprocAttr, ba1_get, ba1_size, hb, passK_shut CxP146, QK.use (idx_ev s c)]
theorem cut_ev (s : ByteArray) (hsz : s.size ≤ 4294967296) (c : UInt8) : EvQ Cx 35 [Sv s, Sv ⟨#[c]⟩] (.tup [Sv (cutA c.toNat s).1, Sv (cutA c.toNat s).2.1, Bo (cutA c.toNat s).2.2]) := by
  have h62 : EvQ Cx 62 [Sv s, Sv ⟨#[c]⟩] (.tup [Sv (cutA c.toNat s).1, Sv (cutA c.toNat s).2.1, Bo (cutA c.toNat s).2.2]) := by
    refine evQ_of CxB62 rfl (by simp [fn62]) ?_
    have hl := idxB_lt c.toNat s.data.toList 0 (by omega)
    have hg := idxB_ge c.toNat s.data.toList 0 (by omega)
    rw [size_data] at hl
    by_cases hi : 0 ≤ idxB c.toNat s.data.toList 0
    · have hc : cutA c.toNat s = (s.extract 0 (idxB c.toNat s.data.toList 0).toNat, s.extract ((idxB c.toNat s.data.toList 0).toNat + 1) s.size, true) := by unfold cutA; rw [if_pos hi]
      rw [hc]
      have hq := index_ev s c
      generalize idxB c.toNat s.data.toList 0 = i at *
      obtain ⟨n, rfl⟩ := Int.eq_ofNat_of_zero_le hi
      have hn : n < s.size := by omega
      simp (config := { maxSteps := 10000000 }) (disch := omega) only [go_sem, simprocAttr, ba1_size, passK_shut CxP97, QK.use hq]
      rfl
    · have hc : cutA c.toNat s = (s, .empty, false) := by unfold cutA; rw [if_neg hi]
      rw [hc]
      have hi' : idxB c.toNat s.data.toList 0 = -1 := by omega
      simp (config := { maxSteps := 10000000 }) (disch := omega) only [go_sem, simprocAttr, ba1_size, passK_shut CxP97, QK.use (index_ev s c), hi']
      rfl
  refine evQ_of CxB35 rfl (by simp [fn35]) ?_
  simp (config := { maxSteps := 10000000 }) (disch := omega) only [go_sem, simprocAttr, passK_shut CxP62, QK.use h62]
end Go.Proofs.YtijpomemobgddaaGreatDoor.Ev
