/- msg.Parse. -/
import Derived.Test.YtijpomemobgddaaGreatDoorS6
set_option linter.unusedSimpArgs false
set_option linter.unusedVariables false
namespace Go.Proofs.YtijpomemobgddaaGreatDoor.Ev
open Go Go.RowKit
set_option maxRecDepth 100000
theorem splitF_size : ∀ (k : Nat) (s : ByteArray), s.size ≤ 2000 → Sz (splitF k s)
  | 0, s, h, x, hx => by
    simp only [splitF, List.mem_singleton] at hx
    subst hx
    exact h
  | k + 1, s, h, x, hx => by
    simp only [splitF] at hx
    split at hx
    · rcases List.mem_cons.mp hx with rfl | hx
      · exact Nat.le_trans (cutA_size 32 s).1 h
      · exact splitF_size k _ (Nat.le_trans (cutA_size 32 s).2 h) x hx
    · simp only [List.mem_singleton] at hx
      subst hx
      exact h
/-- What Parse may give. -/
def ParseG (r : A) : Prop := ∃ (e : Int), (e = 0 ∨ e = 170) ∧ (∃ (k f t l a c : Int) (b : Bool) (d0 d1 d2 d3 : Int), ((0 ≤ k ∧ k < 256) ∧ (0 ≤ f ∧ f < 256) ∧ (0 ≤ t ∧ t < 256) ∧ (0 ≤ l ∧ l < 256) ∧ (0 ≤ a ∧ a < 256) ∧ (0 ≤ c ∧ c < 256) ∧ (0 ≤ d0 ∧ d0 < 256) ∧ (0 ≤ d1 ∧ d1 < 256) ∧ (0 ≤ d2 ∧ d2 < 256) ∧ (0 ≤ d3 ∧ d3 < 256)) ∧ r = .tup [.agg (msgA k f t l a c b d0 d1 d2 d3), I64 e])
theorem parse_ev {s : ByteArray} (hs : s.size ≤ 2000) : ∃ r, EvQ Cx 37 [Sv s] r ∧ ParseG r := by
  have hq : EvQ Cx 64 [Sv s, Sv ⟨⟨[32]⟩⟩, I64 16] _ := splitN_ev hs
  obtain ⟨r0, h1, k, f, t, l, a, c, b, d0, d1, d2, d3, r, ⟨q1, q2, q3, q4, q5, q6, q7, q8, q9, q10⟩, rfl⟩ := scan_ev (splitF (min 15 s.size) s) (splitF_size _ _ hs)
  have hx : EvQ Cx 44 [.agg [I8 k, I8 f, I8 t, I8 l, I8 a, I8 c, Bo b, I8 d0, I8 d1, I8 d2, I8 d3]] _ := text_ev (b := b) q1 q2 q3 q4 q5 q6 q7 q8 q9 q10
  have ex : ∃ r0, RunK Cx [.code m37] ⟨argE 0 [Sv s], []⟩ (FinQ Cx.T .shut fn37.res r0) ∧ ParseG r0 := by
    unfold msgA at h1
    cases r
    · simp (config := { maxSteps := 10000000 }) (disch := omega) only [go_sem, simprocAttr, passK_shut CxP64, QK.use hq, passK_shut CxP63, QK.use h1]
      exact ⟨_, rfl, _, .inr rfl, ⟨_, _, _, _, _, _, _, _, _, _, _, ⟨by first | exact numF_rng _ | assumption | omega, by first | exact numF_rng _ | assumption | omega, by first | exact numF_rng _ | assumption | omega, by first | exact numF_rng _ | assumption | omega, by first | exact numF_rng _ | assumption | omega, by first | exact numF_rng _ | assumption | omega, by first | exact numF_rng _ | assumption | omega, by first | exact numF_rng _ | assumption | omega, by first | exact numF_rng _ | assumption | omega, by first | exact numF_rng _ | assumption | omega⟩, rfl⟩⟩
    · simp (config := { maxSteps := 10000000 }) (disch := omega) only [go_sem, simprocAttr, passK_shut CxP64, QK.use hq, passK_shut CxP63, QK.use h1, passK_shut CxP44, QK.use hx]
      generalize ((joinB (wordsM k f t l a c b d0 d1 d2 d3)).toList == s.toList) = o
      cases o <;> simp (config := { maxSteps := 10000000 }) (disch := omega) only [go_sem, simprocAttr]
      · exact ⟨_, rfl, _, .inr rfl, ⟨_, _, _, _, _, _, _, _, _, _, _, ⟨by first | exact numF_rng _ | assumption | omega, by first | exact numF_rng _ | assumption | omega, by first | exact numF_rng _ | assumption | omega, by first | exact numF_rng _ | assumption | omega, by first | exact numF_rng _ | assumption | omega, by first | exact numF_rng _ | assumption | omega, by first | exact numF_rng _ | assumption | omega, by first | exact numF_rng _ | assumption | omega, by first | exact numF_rng _ | assumption | omega, by first | exact numF_rng _ | assumption | omega⟩, rfl⟩⟩
      · exact ⟨_, rfl, _, .inl rfl, ⟨_, _, _, _, _, _, _, _, _, _, _, ⟨by first | exact numF_rng _ | assumption | omega, by first | exact numF_rng _ | assumption | omega, by first | exact numF_rng _ | assumption | omega, by first | exact numF_rng _ | assumption | omega, by first | exact numF_rng _ | assumption | omega, by first | exact numF_rng _ | assumption | omega, by first | exact numF_rng _ | assumption | omega, by first | exact numF_rng _ | assumption | omega, by first | exact numF_rng _ | assumption | omega, by first | exact numF_rng _ | assumption | omega⟩, rfl⟩⟩
  obtain ⟨r0, h1, h2⟩ := ex
  exact ⟨r0, evQ_of CxB37 rfl (by simp [fn37]) h1, h2⟩
end Go.Proofs.YtijpomemobgddaaGreatDoor.Ev
