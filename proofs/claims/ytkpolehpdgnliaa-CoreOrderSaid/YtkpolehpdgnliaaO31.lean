/- Core: lists of truth values among a law's arguments. -/
import Derived.Test.YtkpolehpdgnliaaO30
import Derived.Test.YtkpolehpdgnliaaFD
set_option linter.unusedSimpArgs false
set_option linter.unusedVariables false
namespace Go.Proofs.Ytkpolehpdgnliaa
open Go Go.RowKit Go.Proofs.Ytkpolehpdgnliaa.Ev
theorem open_bools {a : A} (h : shFits (.sl [.sc .bool]) a) : ∃ D : List Bool, a = bosA D ∧ (D.length : Int) ≤ 200000000000000 := by
  obtain ⟨L, rfl, h1, h2⟩ := sh_sl h
  obtain ⟨D, -, rfl⟩ := lift_list (p := fun _ : Bool => True) (f := fun b => [bo b]) fun c hc => by
    obtain ⟨_, _, rfl, a0, k0⟩ := fitsA_cons (h2 c hc)
    obtain ⟨b, rfl⟩ := sh_bool a0
    obtain rfl := fitsA_nil k0
    exact ⟨b, trivial, rfl⟩
  refine ⟨D, ?_, ?_⟩
  · have key : ∀ D : List Bool, (D.map fun b => [bo b]).flatten = bosC D := fun D => by
      induction D with
      | nil => rfl
      | cons x D ih => simpa [bosC] using ih
    simp only [List.length_map, key]
  · simp only [List.length_map, reachBytes] at h1
    omega
end Go.Proofs.Ytkpolehpdgnliaa
