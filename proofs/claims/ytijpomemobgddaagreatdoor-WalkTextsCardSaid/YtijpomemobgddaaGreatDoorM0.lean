/- Closed calls, step by step: what has been shown of some calls is known in the later ones. -/
import Derived.Test.YtijpomemobgddaaGreatDoorC1
import Derived.Test.YtijpomemobgddaaGreatDoorE31
set_option linter.unusedSimpArgs false
set_option linter.unusedVariables false
namespace Go.Proofs.YtijpomemobgddaaGreatDoor.Ev
open Go Go.RowKit
set_option maxRecDepth 100000
abbrev i8 (n : Int) : A := .v (.int .u8 n)
abbrev i64 (n : Int) : A := .v (.int .i64 n)
abbrev bo (b : Bool) : A := .v (.bool b)
abbrev sA (l : Array UInt8) : A := .v (.string ⟨l⟩)
def rp (n : Nat) (l : List A) : List A := (List.replicate n l).flatten
structure GotA (a : A) where
  m : A
  h : a = m
/-- Functions known in their caller's live blocks. -/
def xOutH (f : FuncId) : Option (List A → Heap → Option (A × Heap)) := bif Nat.beq f 29 then some (holdsO Cx) else xOut0 f
theorem xOutH_ok : ∀ f g zs H x H', xOutH f = some g → g zs H = some (x, H') → FnOut Cx.T Tryz.prog f zs H x H' := by
  intro f g zs H x H' hg h
  unfold xOutH at hg
  cases h1 : Nat.beq f 29 with
  | true =>
    obtain rfl := Nat.eq_of_beq_eq_true h1
    rw [h1, cond_true] at hg
    obtain rfl := Option.some.inj hg
    exact holds_ok CxOk h
  | false =>
    rw [h1, cond_false] at hg
    exact CxOk.extO f g zs H x H' hg h
/-- The program, some calls known. -/
def CX (X : FuncId → List A → Option A) : Ctx := ⟨Cx.T, Cx.B, X, xOutH⟩
theorem CX_ok {X : FuncId → List A → Option A} (h : QOk Cx.T Tryz.prog X) : CtxOk Tryz.prog (CX X) := ⟨CxOk.mixed, CxOk.types, CxOk.loops, CxOk.fns, h, xOutH_ok⟩
theorem X0_ok : QOk Cx.T Tryz.prog xLibs := CxOk.ext
def look1 : List (List A × A) → List A → Option A
  | [], _ => none
  | p :: l, zs => bif eqL p.1 zs then some p.2 else look1 l zs
theorem look1_mem : ∀ {l : List (List A × A)} {zs : List A} {r : A}, look1 l zs = some r → (zs, r) ∈ l
  | [], _, _, h => by cases h
  | p :: l, zs, r, h => by
    unfold look1 at h
    cases hb : eqL p.1 zs with
    | true =>
      simp only [hb, cond_true, Option.some.injEq] at h
      rw [← h, ← eqL_eq _ _ hb]
      exact .head _
    | false =>
      simp only [hb, cond_false] at h
      exact .tail _ (look1_mem h)
def orX (f0 : Nat) (t : List (List A × A)) (X : FuncId → List A → Option A) (f : FuncId) (zs : List A) : Option A := bif Nat.beq f f0 then look1 t zs else X f zs
theorem orX_ok {X0 X : FuncId → List A → Option A} {f0 : Nat} {t : List (List A × A)} (h0 : QOk Cx.T Tryz.prog X0) (ht : ∀ p ∈ t, EvQ (CX X0) f0 p.1 p.2) (hX : QOk Cx.T Tryz.prog X) : QOk Cx.T Tryz.prog (orX f0 t X) := by
  intro f zs r h
  unfold orX at h
  cases hb : Nat.beq f f0 with
  | false =>
    simp only [hb, cond_false] at h
    exact hX f zs r h
  | true =>
    obtain rfl := Nat.eq_of_beq_eq_true hb
    simp only [hb, cond_true] at h
    obtain ⟨N, hN⟩ := ht _ (look1_mem h)
    exact (call_sound (CX_ok h0) N).1 f zs r hN
end Go.Proofs.YtijpomemobgddaaGreatDoor.Ev
