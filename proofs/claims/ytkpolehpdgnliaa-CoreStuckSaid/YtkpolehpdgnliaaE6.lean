/- The evaluator's quiet operations are the model's: each gives what the model's gives, and leaves the world alone. -/
import Derived.Test.YtkpolehpdgnliaaE5
set_option linter.unusedSimpArgs false
set_option linter.unusedVariables false
namespace Go.Proofs.Ytkpolehpdgnliaa.Ev
open Go Go.RowKit
variable {P : Program} {T : Tb}

theorem equal_of {t : TypeId} {x y : Value} {r : Bool} {w : World} (h : ∀ d, (Op.equalIn (d + 1) t x y).run P w = .ok r w) : (Op.equal t x y).run P w = .ok r w := h 9999
/-- What is asked of a value and of what stands for it: it is nil as a slice, as a pointer, as a function, or surely not. -/
theorem nilEq_ok {ρ : List Nat} {own : Nat → Prop} {w : World} {t : TypeId} {d : TypeDesc} (hd : P.underlying t = some d) {a b : A} {x y : Value} {r : Bool}
    (h : nilEq (kOf d) a b = some r) (ha : R ρ own w a x) (hb : R ρ own w b y) :
    (Op.equal t x y).run P w = .ok r w ∧ (∀ k a k' b, x = .int k a → y = .int k' b → False) ∧ (∀ k a k' b, x = .float k a → y = .float k' b → False) ∧ (∀ k a a' k' b b', x = .complex k a a' → y = .complex k' b b' → False) ∧ (∀ a b, x = .string a → y = .string b → False) ∧
      (∀ p q, x = .agg p → y = .agg q → False) ∧ (x = .nilIface → y = .nilIface → False) := by
  cases d <;> simp only [kOf, nilEq] at h <;> try (cases h; done)
  all_goals
    split at h <;> first
      | (cases h; done)
      | (simp only [R] at ha hb
         obtain rfl := Option.some.inj h
         first
           | (obtain ⟨g, cap, cur, e, -, rfl, -⟩ := ha; obtain rfl := hb; refine ⟨equal_of (fun d => by unfold Op.equalIn; simp [run_underlying hd]), ?_⟩; simp; done)
           | (obtain ⟨g, cap, cur, e, -, rfl, -⟩ := hb; obtain rfl := ha; refine ⟨equal_of (fun d => by unfold Op.equalIn; simp [run_underlying hd]), ?_⟩; simp; done)
           | (rcases ha with ⟨ha, -⟩ | ⟨g, off, cap, xs, rfl, -⟩
              · simp at ha
              · obtain rfl := hb; refine ⟨equal_of (fun d => by unfold Op.equalIn; simp [run_underlying hd]), ?_⟩; simp; done)
           | (rcases hb with ⟨hb, -⟩ | ⟨g, off, cap, xs, rfl, -⟩
              · simp at hb
              · obtain rfl := ha; refine ⟨equal_of (fun d => by unfold Op.equalIn; simp [run_underlying hd]), ?_⟩; simp; done)
           | (obtain ⟨g, -, rfl⟩ := ha; obtain rfl := hb; refine ⟨equal_of (fun d => by unfold Op.equalIn; simp [run_underlying hd]), ?_⟩; simp; done)
           | (obtain ⟨g, -, rfl⟩ := hb; obtain rfl := ha; refine ⟨equal_of (fun d => by unfold Op.equalIn; simp [run_underlying hd]), ?_⟩; simp; done)
           | (obtain ⟨g, off, xs, rfl, -⟩ := ha; obtain rfl := hb; refine ⟨equal_of (fun d => by unfold Op.equalIn; simp [run_underlying hd]), ?_⟩; simp; done)
           | (obtain ⟨g, off, xs, rfl, -⟩ := hb; obtain rfl := ha; refine ⟨equal_of (fun d => by unfold Op.equalIn; simp [run_underlying hd]), ?_⟩; simp; done)
           | (obtain ⟨xs, ys, rfl, -⟩ := ha; obtain rfl := hb; refine ⟨equal_of (fun d => by unfold Op.equalIn; simp [run_underlying hd]), ?_⟩; simp; done)
           | (obtain ⟨xs, ys, rfl, -⟩ := hb; obtain rfl := ha; refine ⟨equal_of (fun d => by unfold Op.equalIn; simp [run_underlying hd]), ?_⟩; simp; done)
           | (obtain rfl := ha; obtain rfl := hb; refine ⟨equal_of (fun d => by unfold Op.equalIn; simp [run_underlying hd]), ?_⟩; simp; done))
end Go.Proofs.Ytkpolehpdgnliaa.Ev
