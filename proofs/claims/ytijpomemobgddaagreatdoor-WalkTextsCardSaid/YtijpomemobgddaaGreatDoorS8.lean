/- walk.read. -/
import Derived.Test.YtijpomemobgddaaGreatDoorS7
set_option linter.unusedSimpArgs false
set_option linter.unusedVariables false
namespace Go.Proofs.YtijpomemobgddaaGreatDoor.Ev
open Go Go.RowKit
set_option maxRecDepth 100000
theorem number_ev {s : ByteArray} (hs : s.size ≤ 281474976710656) : EvQ Cx 38 [Sv s] (I8 ((numF s).getD 0 : Nat)) := by
  refine evQ_ext ?_
  have hx : Cx.X = xLibs := rfl
  have e1 : Nat.beq 38 69 = false := rfl
  have e2 : Nat.beq 38 40 = false := rfl
  have h1 : Nat.ble s.size 281474976710656 = true := Nat.ble_eq_true_of_le hs
  rw [hx]
  simp [xLibs, e1, e2, numX, h1]
/-- A step as read gives it. -/
def StepG (x : A) : Prop := (∃ (k n l : Int), (1 ≤ k ∧ k ≤ 4) ∧ (0 ≤ n ∧ n < 256) ∧ (0 ≤ l ∧ l < 256) ∧ x = stA k n l mz) ∨ (∃ (k f t l a c : Int) (b : Bool) (d0 d1 d2 d3 : Int), ((0 ≤ k ∧ k < 256) ∧ (0 ≤ f ∧ f < 256) ∧ (0 ≤ t ∧ t < 256) ∧ (0 ≤ l ∧ l < 256) ∧ (0 ≤ a ∧ a < 256) ∧ (0 ≤ c ∧ c < 256) ∧ (0 ≤ d0 ∧ d0 < 256) ∧ (0 ≤ d1 ∧ d1 < 256) ∧ (0 ≤ d2 ∧ d2 < 256) ∧ (0 ≤ d3 ∧ d3 < 256)) ∧ x = stA 5 0 0 (msgA k f t l a c b d0 d1 d2 d3))
/-- What read may give at a line: a step of this line, or none. -/
def ReadG (s : ByteArray) (r : A) : Prop := (∃ x, StepG x ∧ EvQ Cx 19 [x] (.tup [Sv s, Bo true]) ∧ r = .tup [x, Bo true]) ∨ r = .tup [stA 0 0 0 mz, Bo false]
theorem keys (key : ByteArray) : ∃ kk : Int, (kk = 0 ∨ kk = 1 ∨ kk = 2 ∨ kk = 3 ∨ kk = 4 ∨ kk = 5) ∧ (sCore.toList == key.toList) = decide (kk = 1) ∧ (sDrain.toList == key.toList) = decide (kk = 2) ∧ (sTry.toList == key.toList) = decide (kk = 3) ∧ (sEvict.toList == key.toList) = decide (kk = 4) ∧ (sMsg.toList == key.toList) = decide (kk = 5) := by
  by_cases h1 : key = sCore
  · subst h1
    exact ⟨1, by decide, by simp, bs_ne (by decide), bs_ne (by decide), bs_ne (by decide), bs_ne (by decide)⟩
  by_cases h2 : key = sDrain
  · subst h2
    exact ⟨2, by decide, bs_ne (by decide), by simp, bs_ne (by decide), bs_ne (by decide), bs_ne (by decide)⟩
  by_cases h3 : key = sTry
  · subst h3
    exact ⟨3, by decide, bs_ne (by decide), bs_ne (by decide), by simp, bs_ne (by decide), bs_ne (by decide)⟩
  by_cases h4 : key = sEvict
  · subst h4
    exact ⟨4, by decide, bs_ne (by decide), bs_ne (by decide), bs_ne (by decide), by simp, bs_ne (by decide)⟩
  by_cases h5 : key = sMsg
  · subst h5
    exact ⟨5, by decide, bs_ne (by decide), bs_ne (by decide), bs_ne (by decide), bs_ne (by decide), by simp⟩
  exact ⟨0, by decide, bs_ne h1, bs_ne h2, bs_ne h3, bs_ne h4, bs_ne h5⟩
theorem bs_eq {a s : ByteArray} (h : (a.toList == s.toList) = true) : a = s := by
  have h := eq_of_beq h
  rw [ByteArray.toList_eq, ByteArray.toList_eq] at h
  exact ByteArray.ext (Array.ext' h)
theorem fmt4' {n l : Int} (hn : 0 ≤ n ∧ n < 256) (hl : 0 ≤ l ∧ l < 256) : ∃ T B, EvQ Cx 19 [stA 4 n l mz] (.tup [Sv T, Bo B]) := ⟨_, _, fmt4 hn hl⟩
theorem fmt1' {n l : Int} (hn : 0 ≤ n ∧ n < 256) (hl : 0 ≤ l ∧ l < 256) : ∃ T B, EvQ Cx 19 [stA 1 n l mz] (.tup [Sv T, Bo B]) := ⟨_, _, fmt1 hn⟩
theorem fmt2' {n l : Int} (hn : 0 ≤ n ∧ n < 256) (hl : 0 ≤ l ∧ l < 256) : ∃ T B, EvQ Cx 19 [stA 2 n l mz] (.tup [Sv T, Bo B]) := ⟨_, _, fmt2 hn⟩
theorem fmt3' {n l : Int} (hn : 0 ≤ n ∧ n < 256) (hl : 0 ≤ l ∧ l < 256) : ∃ T B, EvQ Cx 19 [stA 3 n l mz] (.tup [Sv T, Bo B]) := ⟨_, _, fmt3 hn⟩
theorem joinW_size {k f t l a c d0 d1 d2 d3 : Int} {b : Bool} (hk : 0 ≤ k ∧ k < 256) (hf : 0 ≤ f ∧ f < 256) (ht : 0 ≤ t ∧ t < 256) (hl : 0 ≤ l ∧ l < 256) (ha : 0 ≤ a ∧ a < 256) (hc : 0 ≤ c ∧ c < 256) (h0 : 0 ≤ d0 ∧ d0 < 256) (h1 : 0 ≤ d1 ∧ d1 < 256) (h2 : 0 ≤ d2 ∧ d2 < 256) (h3 : 0 ≤ d3 ∧ d3 < 256) : (joinB (wordsM k f t l a c b d0 d1 d2 d3)).size ≤ 1000 := by
  have xk := digB_size (n := k) (by omega)
  have xf := digB_size (n := f) (by omega)
  have xt := digB_size (n := t) (by omega)
  have xl := digB_size (n := l) (by omega)
  have xa := digB_size (n := a) (by omega)
  have xc := digB_size (n := c) (by omega)
  have x0 := digB_size (n := d0) (by omega)
  have x1 := digB_size (n := d1) (by omega)
  have x2 := digB_size (n := d2) (by omega)
  have x3 := digB_size (n := d3) (by omega)
  have y1 : sKind.size = 4 ∧ sLine.size = 4 ∧ sAsker.size = 5 ∧ sAcks.size = 4 ∧ sAlone.size = 5 ∧ sData.size = 4 ∧ sGt.size = 1 := by decide
  have hn : ¬ clsF k = 0 → (nameF k).size ≤ 6 := fun h => nameF_size k (by
    unfold clsF at h
    split at h
    · omega
    · split at h
      · omega
      · split at h
        · omega
        · split at h
          · omega
          · split at h <;> omega)
  have hA : ∀ x ∈ (if clsF k = 0 then [sKind, digB k] else [nameF k]), x.size ≤ 10 := by
    split
    · simp only [List.forall_mem_cons, List.not_mem_nil, false_implies, implies_true, and_true]; omega
    · rename_i h
      have := hn h
      simp only [List.forall_mem_cons, List.not_mem_nil, false_implies, implies_true, and_true]; omega
  have hB : (if clsF k = 0 then [sKind, digB k] else [nameF k]).length ≤ 2 := by split <;> simp
  refine Nat.le_trans (joinB_size fun x hx => ?_) (Nat.le_trans (Nat.mul_le_mul_right 11 (?_ : _ ≤ 20)) (by omega))
  · unfold wordsM at hx
    simp only [List.mem_append] at hx
    rcases hx with ((((hx | hx) | hx) | hx) | hx) | hx
    · exact hA x hx
    · revert x
      simp only [List.forall_mem_cons, List.not_mem_nil, false_implies, implies_true, and_true, ByteArray.size_append]; omega
    · revert x
      split <;> simp only [List.forall_mem_cons, List.not_mem_nil, false_implies, implies_true, and_true] <;> omega
    · revert x
      split <;> simp only [List.forall_mem_cons, List.not_mem_nil, false_implies, implies_true, and_true] <;> omega
    · revert x
      split <;> simp only [List.forall_mem_cons, List.not_mem_nil, false_implies, implies_true, and_true] <;> omega
    · revert x
      split <;> simp only [List.forall_mem_cons, List.not_mem_nil, false_implies, implies_true, and_true] <;> omega
  · unfold wordsM
    generalize (if clsF k = 0 then [sKind, digB k] else [nameF k]) = L at hB
    simp only [List.length_append]
    have q1 : (if a = 0 then [] else [sAsker, digB a]).length ≤ 2 := by split <;> simp
    have q2 : (if c = 0 then [] else [sAcks, digB c]).length ≤ 2 := by split <;> simp
    have q3 : (if b = true then [sAlone] else []).length ≤ 1 := by split <;> simp
    have q4 : (if (d0 == 0 && (d1 == 0 && (d2 == 0 && d3 == 0))) = true then [] else [sData, digB d0, digB d1, digB d2, digB d3]).length ≤ 5 := by split <;> simp
    simp only [List.length_cons, List.length_nil]
    omega
theorem read_ev {s : ByteArray} (hs : s.size ≤ 2000) : ∃ r, EvQ Cx 18 [Sv s] r ∧ ReadG s r := by
  have hq : EvQ Cx 35 [Sv s, Sv ⟨⟨[32]⟩⟩] _ := cut_ev s (by omega) 32
  have ex : ∃ r0, RunK Cx [.code m18] ⟨argE 0 [Sv s], []⟩ (FinQ Cx.T .shut fn18.res r0) ∧ ReadG s r0 := by
    simp (config := { maxSteps := 10000000 }) (disch := omega) only [go_sem, simprocAttr, passK_shut CxP35, QK.use hq]
    have hr := (cutA_size 32 s).2
    generalize (cutA 32 s).2.1 = rest at *
    generalize (cutA 32 s).1 = key at *
    obtain ⟨kk, hk, k1, k2, k3, k4, k5⟩ := keys key
    have p1 := (cutA_size 32 rest).1
    have p2 := (cutA_size 32 rest).2
    have hc : EvQ Cx 35 [Sv rest, Sv ⟨⟨[32]⟩⟩] _ := cut_ev rest (by omega) 32
    have n1 := number_ev (s := (cutA 32 rest).1) (by omega)
    have n2 := number_ev (s := (cutA 32 rest).2.1) (by omega)
    have g1 := numF_rng (cutA 32 rest).1
    have g2 := numF_rng (cutA 32 rest).2.1
    rcases hk with rfl | rfl | rfl | rfl | rfl | rfl
    · iterate 6 (simp only [runK_loop]; simp (config := { maxSteps := 10000000 }) (disch := omega) only [go_sem, simprocAttr, passK_shut CxP36, QK.use word1, QK.use word2, QK.use word3, QK.use word4, QK.use word5, k1, k2, k3, k4, k5])
      exact ⟨_, rfl, .inr rfl⟩
    · obtain ⟨T, B, hf0⟩ := fmt1' g1 g2
      have hf := hf0
      unfold stA mz at hf
      iterate 6 (simp only [runK_loop]; simp (config := { maxSteps := 10000000 }) (disch := omega) only [go_sem, simprocAttr, passK_shut CxP36, QK.use word1, QK.use word2, QK.use word3, QK.use word4, QK.use word5, k1, k2, k3, k4, k5])
      simp (config := { maxSteps := 10000000 }) (disch := omega) only [go_sem, simprocAttr, passK_shut CxP35, QK.use hc, passK_shut (show isPass Cx 38 = false from rfl), QK.use n1, QK.use n2, passK_shut CxP19, QK.use hf]
      cases B
      · simp (config := { maxSteps := 10000000 }) (disch := omega) only [go_sem, simprocAttr]
        exact ⟨_, rfl, .inr rfl⟩
      · cases hb : (T.toList == s.toList) with
        | false =>
          simp (config := { maxSteps := 10000000 }) (disch := omega) only [go_sem, simprocAttr, hb]
          exact ⟨_, rfl, .inr rfl⟩
        | true =>
          simp (config := { maxSteps := 10000000 }) (disch := omega) only [go_sem, simprocAttr, hb]
          exact ⟨_, rfl, .inl ⟨_, .inl ⟨_, _, _, by omega, g1, g2, rfl⟩, bs_eq hb ▸ hf0, rfl⟩⟩
    · obtain ⟨T, B, hf0⟩ := fmt2' g1 g2
      have hf := hf0
      unfold stA mz at hf
      iterate 6 (simp only [runK_loop]; simp (config := { maxSteps := 10000000 }) (disch := omega) only [go_sem, simprocAttr, passK_shut CxP36, QK.use word1, QK.use word2, QK.use word3, QK.use word4, QK.use word5, k1, k2, k3, k4, k5])
      simp (config := { maxSteps := 10000000 }) (disch := omega) only [go_sem, simprocAttr, passK_shut CxP35, QK.use hc, passK_shut (show isPass Cx 38 = false from rfl), QK.use n1, QK.use n2, passK_shut CxP19, QK.use hf]
      cases B
      · simp (config := { maxSteps := 10000000 }) (disch := omega) only [go_sem, simprocAttr]
        exact ⟨_, rfl, .inr rfl⟩
      · cases hb : (T.toList == s.toList) with
        | false =>
          simp (config := { maxSteps := 10000000 }) (disch := omega) only [go_sem, simprocAttr, hb]
          exact ⟨_, rfl, .inr rfl⟩
        | true =>
          simp (config := { maxSteps := 10000000 }) (disch := omega) only [go_sem, simprocAttr, hb]
          exact ⟨_, rfl, .inl ⟨_, .inl ⟨_, _, _, by omega, g1, g2, rfl⟩, bs_eq hb ▸ hf0, rfl⟩⟩
    · obtain ⟨T, B, hf0⟩ := fmt3' g1 g2
      have hf := hf0
      unfold stA mz at hf
      iterate 6 (simp only [runK_loop]; simp (config := { maxSteps := 10000000 }) (disch := omega) only [go_sem, simprocAttr, passK_shut CxP36, QK.use word1, QK.use word2, QK.use word3, QK.use word4, QK.use word5, k1, k2, k3, k4, k5])
      simp (config := { maxSteps := 10000000 }) (disch := omega) only [go_sem, simprocAttr, passK_shut CxP35, QK.use hc, passK_shut (show isPass Cx 38 = false from rfl), QK.use n1, QK.use n2, passK_shut CxP19, QK.use hf]
      cases B
      · simp (config := { maxSteps := 10000000 }) (disch := omega) only [go_sem, simprocAttr]
        exact ⟨_, rfl, .inr rfl⟩
      · cases hb : (T.toList == s.toList) with
        | false =>
          simp (config := { maxSteps := 10000000 }) (disch := omega) only [go_sem, simprocAttr, hb]
          exact ⟨_, rfl, .inr rfl⟩
        | true =>
          simp (config := { maxSteps := 10000000 }) (disch := omega) only [go_sem, simprocAttr, hb]
          exact ⟨_, rfl, .inl ⟨_, .inl ⟨_, _, _, by omega, g1, g2, rfl⟩, bs_eq hb ▸ hf0, rfl⟩⟩
    · obtain ⟨T, B, hf0⟩ := fmt4' g1 g2
      have hf := hf0
      unfold stA mz at hf
      iterate 6 (simp only [runK_loop]; simp (config := { maxSteps := 10000000 }) (disch := omega) only [go_sem, simprocAttr, passK_shut CxP36, QK.use word1, QK.use word2, QK.use word3, QK.use word4, QK.use word5, k1, k2, k3, k4, k5])
      simp (config := { maxSteps := 10000000 }) (disch := omega) only [go_sem, simprocAttr, passK_shut CxP35, QK.use hc, passK_shut (show isPass Cx 38 = false from rfl), QK.use n1, QK.use n2, passK_shut CxP19, QK.use hf]
      cases B
      · simp (config := { maxSteps := 10000000 }) (disch := omega) only [go_sem, simprocAttr]
        exact ⟨_, rfl, .inr rfl⟩
      · cases hb : (T.toList == s.toList) with
        | false =>
          simp (config := { maxSteps := 10000000 }) (disch := omega) only [go_sem, simprocAttr, hb]
          exact ⟨_, rfl, .inr rfl⟩
        | true =>
          simp (config := { maxSteps := 10000000 }) (disch := omega) only [go_sem, simprocAttr, hb]
          exact ⟨_, rfl, .inl ⟨_, .inl ⟨_, _, _, by omega, g1, g2, rfl⟩, bs_eq hb ▸ hf0, rfl⟩⟩
    · obtain ⟨r, hp, e, he, k, f, t, l, a, c, b, d0, d1, d2, d3, ⟨q1, q2, q3, q4, q5, q6, q7, q8, q9, q10⟩, rfl⟩ := parse_ev (s := rest) (by omega)
      have hx := text_ev (b := b) q1 q2 q3 q4 q5 q6 q7 q8 q9 q10
      have hz := joinW_size (b := b) q1 q2 q3 q4 q5 q6 q7 q8 q9 q10
      obtain ⟨T, hf0⟩ : ∃ T, EvQ Cx 19 [stA 5 0 0 (msgA k f t l a c b d0 d1 d2 d3)] (.tup [Sv T, Bo true]) := ⟨_, fmt5 hz hx⟩
      have hf := hf0
      unfold stA msgA at hf
      unfold msgA at hp
      iterate 6 (simp only [runK_loop]; simp (config := { maxSteps := 10000000 }) (disch := omega) only [go_sem, simprocAttr, passK_shut CxP36, QK.use word1, QK.use word2, QK.use word3, QK.use word4, QK.use word5, k1, k2, k3, k4, k5])
      rcases he with rfl | rfl
      · simp (config := { maxSteps := 10000000 }) (disch := omega) only [go_sem, simprocAttr, passK_shut CxP37, QK.use hp, passK_shut CxP19, QK.use hf]
        cases hb : (T.toList == s.toList) with
        | false =>
          simp (config := { maxSteps := 10000000 }) (disch := omega) only [go_sem, simprocAttr, hb]
          exact ⟨_, rfl, .inr rfl⟩
        | true =>
          simp (config := { maxSteps := 10000000 }) (disch := omega) only [go_sem, simprocAttr, hb]
          exact ⟨_, rfl, .inl ⟨_, .inr ⟨_, _, _, _, _, _, _, _, _, _, _, ⟨q1, q2, q3, q4, q5, q6, q7, q8, q9, q10⟩, rfl⟩, bs_eq hb ▸ hf0, rfl⟩⟩
      · simp (config := { maxSteps := 10000000 }) (disch := omega) only [go_sem, simprocAttr, passK_shut CxP37, QK.use hp]
        exact ⟨_, rfl, .inr rfl⟩
  obtain ⟨r0, h1, h2⟩ := ex
  exact ⟨r0, evQ_of CxB18 rfl (by simp [fn18]) h1, h2⟩
end Go.Proofs.YtijpomemobgddaaGreatDoor.Ev
