/- What a law's opened arguments are to the evaluator. -/
import Derived.Test.YtnhknhniemfnjaaGreatDoorLaid
set_option linter.unusedSimpArgs false
set_option linter.unusedVariables false
namespace Go.Proofs.YtnhknhniemfnjaaGreatDoor.Ev
open Go Go.RowKit Go.Proofs.YtnhknhniemfnjaaGreatDoor.Ev
theorem sh_fit {s : Sh} {a : A} (h : shFits s a) : one a = true ∧ shut a = true ∧ ∀ (H : Heap) (n : Nat), freeze H (n + 1) a = some a := by
  cases s with
  | sc s =>
    rw [shFits] at h
    obtain ⟨x, rfl, hx⟩ := h
    cases s with
    | int k =>
      obtain ⟨z, rfl, -⟩ := hx
      exact ⟨rfl, rfl, fun _ _ => rfl⟩
    | bool =>
      obtain ⟨z, rfl⟩ := hx
      exact ⟨rfl, rfl, fun _ _ => rfl⟩
    | str =>
      obtain ⟨z, rfl, -⟩ := hx
      exact ⟨rfl, rfl, fun _ _ => rfl⟩
  | sl e =>
    rw [shFits] at h
    obtain ⟨l, rfl, -⟩ := h
    exact ⟨rfl, rfl, fun _ _ => rfl⟩
  | any =>
    rw [shFits] at h
    obtain ⟨x, rfl, hx⟩ := h
    refine ⟨?_, rfl, fun _ _ => rfl⟩
    cases x <;> first
      | rfl
      | cases hx
theorem fitsA_all : ∀ {ks : List Sh} {l : List A}, FitsA ks l → ones l = true ∧ shut.shutL l = true ∧ ∀ (H : Heap) (n : Nat), mapO (freeze H (n + 1)) l = some l
  | [], l, h => by
    obtain rfl := fitsA_nil h
    exact ⟨rfl, rfl, fun _ _ => rfl⟩
  | s :: ks, l, h => by
    obtain ⟨a, l', rfl, h1, h2⟩ := fitsA_cons h
    obtain ⟨k1, k2, k3⟩ := sh_fit h1
    obtain ⟨k4, k5, k6⟩ := fitsA_all h2
    refine ⟨?_, ?_, fun H n => ?_⟩
    · simp only [ones, k1, k4, Bool.and_self]
    · simp only [shut.shutL, k2, k5, Bool.and_self]
    · simp only [mapO, k3, k6]
theorem fitsA_get : ∀ {ks : List Sh} {l : List A}, FitsA ks l → ∀ (i : Nat) (s : Sh), ks[i]? = some s → ∃ a, l[i]? = some a ∧ shFits s a
  | [], _, _, i, s, hs => by simp at hs
  | s0 :: ks, l, h, i, s, hs => by
    obtain ⟨a, l', rfl, h1, h2⟩ := fitsA_cons h
    cases i with
    | zero =>
      simp only [List.getElem?_cons_zero, Option.some.injEq] at hs
      subst hs
      exact ⟨a, rfl, h1⟩
    | succ i => simpa using fitsA_get h2 i s (by simpa using hs)
theorem eq_fit {s : Sh} {a : A} (h : shFits s a) (hs : ∀ e l n, s = .sl e → a = .sl n l → eqL l l = true) : eqA a a = true := by
  cases s with
  | sc s =>
    rw [shFits] at h
    obtain ⟨x, rfl, hx⟩ := h
    cases s with
    | int k =>
      obtain ⟨z, rfl, -⟩ := hx
      simp [eqA, eqV]
    | bool =>
      obtain ⟨z, rfl⟩ := hx
      simp [eqA, eqV]
    | str =>
      obtain ⟨z, rfl, -⟩ := hx
      simp only [eqA, eqV]
      exact beq_self_eq_true z.data
  | sl e =>
    have h' := h
    rw [shFits] at h
    obtain ⟨l, rfl, -⟩ := h
    simp only [eqA, Nat.beq_refl, Bool.true_and]
    exact hs e _ _ rfl rfl
  | any =>
    rw [shFits] at h
    obtain ⟨x, rfl, hx⟩ := h
    cases x <;> first
      | cases hx
      | skip
    rename_i p _ _
    cases p <;> simp [eqA, eqV]
/-- Alike to itself, if its opened lists are. -/
theorem eq_fits : ∀ {ks : List Sh} {l : List A}, FitsA ks l → (∀ (i : Nat) e zs n, ks[i]? = some (.sl e) → l[i]? = some (.sl n zs) → eqL zs zs = true) → eqL l l = true
  | [], l, h, _ => by
    obtain rfl := fitsA_nil h
    rfl
  | s :: ks, l, h, hs => by
    obtain ⟨a, l', rfl, h1, h2⟩ := fitsA_cons h
    simp only [eqL, Bool.and_eq_true]
    exact ⟨eq_fit h1 fun e l n e1 e2 => hs 0 e l n (by simp [e1]) (by simp [e2]), eq_fits h2 fun i e zs n g1 g2 => hs (i + 1) e zs n (by simpa using g1) (by simpa using g2)⟩
end Go.Proofs.YtnhknhniemfnjaaGreatDoor.Ev
