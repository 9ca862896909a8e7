/- The evaluator's quiet operations are the model's: each gives what the model's gives, and leaves the world alone. -/
import Derived.Test.YtkpolehpdgnliaaE4
import Derived.WalkSpells
set_option linter.unusedSimpArgs false
set_option linter.unusedVariables false
namespace Go.Proofs.Ytkpolehpdgnliaa.Ev
open Go Go.RowKit
variable {P : Program} {T : Tb}

theorem run_eqGuard_eq (op : BinOp) (t : TypeId) (x y : Operand) (a b : Value) (w : World) (h1 : ∀ p q, a = .agg p → b = .agg q → P.eqGuardType P.depth t = false) (h2 : a = .nilIface → b = .nilIface → False) :
    (eqGuard op t x y a b).run P w = .ok () w := by
  unfold eqGuard
  cases op <;> first
    | (simp; done)
    | (cases a <;> first
        | (simp; done)
        | (cases b <;> first
            | (simp; done)
            | (exact (h2 rfl rfl).elim)
            | (rename_i p q; simp [h1 p q rfl rfl])))

theorem binV_ok {op : BinOp} {x y r : Value} (t : TypeId) (w : World) (h : binV op x y = some r) : (binOp op t x y).run P w = .ok r w := by
  unfold binV at h
  split at h
  · rename_i k a k' b
    cases op with
    | shl =>
      simp only at h
      split at h
      · cases h
      · rename_i hb
        obtain rfl := Option.some.inj h
        simp [binOp, Op.shift, hb]
    | shr =>
      simp only at h
      split at h
      · cases h
      · rename_i hb
        obtain rfl := Option.some.inj h
        simp [binOp, Op.shift, hb]
    | quo =>
      simp only at h
      split at h
      · rename_i hk
        split at h
        · cases h
        · rename_i hb
          obtain rfl := Option.some.inj h
          simp [binOp, hk, Op.intDiv, hb]
      · cases h
    | rem =>
      simp only at h
      split at h
      · rename_i hk
        split at h
        · cases h
        · rename_i hb
          obtain rfl := Option.some.inj h
          simp [binOp, hk, Op.intDiv, hb]
      · cases h
    | _ =>
      simp only at h
      split at h
      · rename_i hk
        subst hk
        obtain rfl := Option.some.inj h
        simp [binOp, Op.intArith, Op.intBits, Op.intCmp]
      · cases h
  · rename_i a b
    cases op with
    | add =>
      simp only at h
      split at h
      · cases h
      · rename_i hb
        obtain rfl := Option.some.inj h
        simp only [binOp, Op.stringOp, if_neg hb, Sem.run_pure]
    | _ =>
      simp only at h
      first
        | (obtain rfl := Option.some.inj h; simp [binOp, Op.stringOp])
        | cases h
  · cases h
theorem binV_not {op : BinOp} {x y r : Value} (h : binV op x y = some r) : (∀ p q, x = .agg p → y = .agg q → False) ∧ (x = .nilIface → y = .nilIface → False) := by
  unfold binV at h
  split at h
  · exact ⟨(fun p q h => by cases h), (fun h => by cases h)⟩
  · exact ⟨(fun p q h => by cases h), (fun h => by cases h)⟩
  · cases h

theorem run_eql (t : TypeId) {x y : Value} {b : Bool} {w : World} (h : (Op.equal t x y).run P w = .ok b w)
    (h1 : ∀ k a k' b, x = .int k a → y = .int k' b → False) (h2 : ∀ k a k' b, x = .float k a → y = .float k' b → False) (h3 : ∀ k a a' k' b b', x = .complex k a a' → y = .complex k' b b' → False) (h4 : ∀ a b, x = .string a → y = .string b → False) :
    (binOp .eql t x y).run P w = .ok (.bool b) w ∧ (binOp .neq t x y).run P w = .ok (.bool !b) w := by
  constructor <;>
  · unfold binOp
    split <;> first
      | (exfalso; rename_i hop _; cases hop; done)
      | (exfalso; exact h1 _ _ _ _ rfl rfl)
      | (exfalso; exact h2 _ _ _ _ rfl rfl)
      | (exfalso; exact h3 _ _ _ _ _ _ rfl rfl)
      | (exfalso; exact h4 _ _ rfl rfl)
      | (simp [h]; done)
      | simp_all
end Go.Proofs.Ytkpolehpdgnliaa.Ev
namespace Go.Proofs.Ytkpolehpdgnliaa.Ev
open Go Go.RowKit
variable {P : Program} {T : Tb}

theorem equal_of {t : TypeId} {x y : Value} {r : Bool} {w : World} (h : ∀ d, (Op.equalIn (d + 1) t x y).run P w = .ok r w) : (Op.equal t x y).run P w = .ok r w := h 9999
/-- What is asked of a value and of what stands for it: it is nil as a slice, as a pointer, as a function, or surely not. -/
theorem nilEq_ok {ρ : List Nat} {own : Nat → Prop} {w : World} {t : TypeId} {d : TypeDesc} (hd : P.underlying t = some d) {a b : A} {x y : Value} {r : Bool}
    (h : nilEq (kOf d) a b = some r) (ha : R ρ own w a x) (hb : R ρ own w b y) :
    (Op.equal t x y).run P w = .ok r w ∧ (∀ k a k' b, x = .int k a → y = .int k' b → False) ∧ (∀ k a k' b, x = .float k a → y = .float k' b → False) ∧ (∀ k a a' k' b b', x = .complex k a a' → y = .complex k' b b' → False) ∧ (∀ a b, x = .string a → y = .string b → False) ∧
      (∀ p q, x = .agg p → y = .agg q → False) ∧ (x = .nilIface → y = .nilIface → False) := by
  cases d <;> simp only [kOf, nilEq] at h <;> try (cases h; done)
  all_goals
    split at h <;> first
      | (cases h; done)
      | (simp only [R] at ha hb
         obtain rfl := Option.some.inj h
         first
           | (obtain ⟨g, cap, cur, e, -, rfl, -⟩ := ha; obtain rfl := hb; refine ⟨equal_of (fun d => by unfold Op.equalIn; simp [run_underlying hd]), ?_⟩; simp; done)
           | (obtain ⟨g, cap, cur, e, -, rfl, -⟩ := hb; obtain rfl := ha; refine ⟨equal_of (fun d => by unfold Op.equalIn; simp [run_underlying hd]), ?_⟩; simp; done)
           | (rcases ha with ⟨ha, -⟩ | ⟨g, off, cap, xs, rfl, -⟩
              · simp at ha
              · obtain rfl := hb; refine ⟨equal_of (fun d => by unfold Op.equalIn; simp [run_underlying hd]), ?_⟩; simp; done)
           | (rcases hb with ⟨hb, -⟩ | ⟨g, off, cap, xs, rfl, -⟩
              · simp at hb
              · obtain rfl := ha; refine ⟨equal_of (fun d => by unfold Op.equalIn; simp [run_underlying hd]), ?_⟩; simp; done)
           | (obtain ⟨g, -, rfl⟩ := ha; obtain rfl := hb; refine ⟨equal_of (fun d => by unfold Op.equalIn; simp [run_underlying hd]), ?_⟩; simp; done)
           | (obtain ⟨g, -, rfl⟩ := hb; obtain rfl := ha; refine ⟨equal_of (fun d => by unfold Op.equalIn; simp [run_underlying hd]), ?_⟩; simp; done)
           | (obtain ⟨g, off, xs, rfl, -⟩ := ha; obtain rfl := hb; refine ⟨equal_of (fun d => by unfold Op.equalIn; simp [run_underlying hd]), ?_⟩; simp; done)
           | (obtain ⟨g, off, xs, rfl, -⟩ := hb; obtain rfl := ha; refine ⟨equal_of (fun d => by unfold Op.equalIn; simp [run_underlying hd]), ?_⟩; simp; done)
           | (obtain ⟨xs, ys, rfl, -⟩ := ha; obtain rfl := hb; refine ⟨equal_of (fun d => by unfold Op.equalIn; simp [run_underlying hd]), ?_⟩; simp; done)
           | (obtain ⟨xs, ys, rfl, -⟩ := hb; obtain rfl := ha; refine ⟨equal_of (fun d => by unfold Op.equalIn; simp [run_underlying hd]), ?_⟩; simp; done)
           | (obtain rfl := ha; obtain rfl := hb; refine ⟨equal_of (fun d => by unfold Op.equalIn; simp [run_underlying hd]), ?_⟩; simp; done))
end Go.Proofs.Ytkpolehpdgnliaa.Ev
