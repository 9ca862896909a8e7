/- Functions without a body: what the evaluator takes them to give. -/
import Derived.Test.YtijpomemobgddaaGreatDoorE22
import Derived.Test.YtijpomemobgddaaGreatDoorChecked
import Derived.Lib.Bytealg
import Derived.Laws.StandIn
set_option linter.unusedSimpArgs false
set_option linter.unusedVariables false
namespace Go.Proofs.YtijpomemobgddaaGreatDoor.Ev
open Go Go.RowKit

/-- The place of a letter; -1. -/
def idxB (c : Nat) : List UInt8 → Int → Int
  | [], _ => -1
  | b :: l, i => bif Nat.beq b.toNat c then i else idxB c l (i + 1)
theorem indexByte_ge (c : UInt8) : ∀ l : List UInt8, -1 ≤ Lib.indexByte l c
  | [] => by simp [Lib.indexByte]
  | b :: l => by
    have := indexByte_ge c l
    unfold Lib.indexByte
    split
    · omega
    · split <;> omega
theorem idxB_eq (c : UInt8) : ∀ (l : List UInt8) (i : Int), idxB c.toNat l i = if Lib.indexByte l c = -1 then -1 else Lib.indexByte l c + i
  | [], i => by simp [idxB, Lib.indexByte]
  | b :: l, i => by
    have h0 := indexByte_ge c l
    unfold idxB Lib.indexByte
    rw [idxB_eq c l (i + 1)]
    by_cases hb : b = c
    · subst hb
      simp
    · have h1 : Nat.beq b.toNat c.toNat = false := by
        cases hh : Nat.beq b.toNat c.toNat with
        | false => rfl
        | true => exact absurd (UInt8.toNat_inj.1 (Nat.eq_of_beq_eq_true hh)) hb
      have h2 : (b == c) = false := by simpa using hb
      simp only [h1, h2, cond_false, Bool.false_eq_true, if_false]
      by_cases h3 : Lib.indexByte l c = -1
      · simp [h3]
      · have h4 : (Lib.indexByte l c == -1) = false := by simpa using h3
        simp only [h4, h3, Bool.false_eq_true, if_false]
        have h5 : ¬ Lib.indexByte l c + 1 = -1 := by omega
        rw [if_neg h5]
        omega
def xLib (f : FuncId) (zs : List A) : Option A :=
  bif Nat.beq f 208 then match zs with
    | [.v (.string s), .v (.int .u8 c)] => if 0 ≤ c ∧ c ≤ 255 then some (.v (.int .i64 (idxB c.toNat s.data.toList 0))) else none
    | _ => none
  else none
theorem xLib_ok {T : Tb} : QOk T Tryz.prog xLib := by
  intro f zs r h
  unfold xLib at h
  cases hb : Nat.beq f 208 with
  | false => simp [hb] at h
  | true =>
    obtain rfl := Nat.eq_of_beq_eq_true hb
    simp only [hb, cond_true] at h
    split at h
    · rename_i s c
      split at h
      · rename_i hc
        obtain rfl := Option.some.inj h
        left
        intro ρ own w ys hr
        rw [RL] at hr
        obtain ⟨y1, ys1, rfl, h1, h2⟩ := hr
        obtain ⟨y2, rfl, h3⟩ := h2.single
        rw [R] at h1 h3
        subst h1
        subst h3
        refine ⟨.int .i64 (idxB c.toNat s.data.toList 0), ?_, by rw [R]⟩
        have hcc : c.toNat.toUInt8.toNat = c.toNat := by
          have : c.toNat < 256 := by omega
          simp [Nat.toUInt8, UInt8.toNat_ofNat, Nat.mod_eq_of_lt this]
        rw [run_callFunc_indexByte Tryz.func208 (by kernel_rfl) (by kernel_rfl) (by kernel_rfl) (by rfl), Lib.run_indexByteString]
        rw [← hcc, idxB_eq]
        have hge := indexByte_ge c.toNat.toUInt8 s.data.toList
        simp only [Result.andThen_ok, Int.add_zero, hcc]
        congr 3
        split
        · rename_i h5
          exact h5
        · rfl
      · cases h
    · cases h
end Go.Proofs.YtijpomemobgddaaGreatDoor.Ev
