/- Core, in plain: what the status says, what Local leaves alone. -/
import Derived.Test.YtkpolehpdgnliaaP1
set_option linter.unusedSimpArgs false
set_option linter.unusedVariables false
namespace Go.Proofs.Ytkpolehpdgnliaa.Pl
theorem next_facts (l : List Ins) (b pc : Int) (g : Nat → Int) (bs : List (Int × Int)) (w d : Bool) (p1 : 0 ≤ pc) :
    (next l b ⟨pc, g, bs, w, d⟩ = 1 ∧ (l.length : Int) ≤ pc ∧ w = false ∧ bs = []) ∨
    (next l b ⟨pc, g, bs, w, d⟩ = 2 ∧ w = false ∧ ∃ x, l[pc.toNat]? = some x ∧ ((x.op = 1 ∧ ∃ v, young x.loc bs = some v) ∨ (x.op = 2 ∧ (bs.length : Int) < b) ∨ x.op = 3 ∨ (x.op = 7 ∧ (bs = [] ∨ x.mode ≠ 3)) ∨ x.op = 8)) ∨
    (next l b ⟨pc, g, bs, w, d⟩ = 3 ∧ w = false ∧ d = false ∧ ∃ x, l[pc.toNat]? = some x ∧ ((x.op = 1 ∧ young x.loc bs = none) ∨ (x.op = 2 ∧ b ≤ 0) ∨ ((x.op = 4 ∨ x.op = 5 ∨ x.op = 6) ∧ bs = []))) ∨
    (next l b ⟨pc, g, bs, w, d⟩ = 4 ∧ (w = true ∨ d = true ∨ bs ≠ [] ∨ ∃ x, l[pc.toNat]? = some x ∧ ¬ (1 ≤ x.op ∧ x.op ≤ 8))) := by
  cases hx : l[pc.toNat]? with
  | none =>
    have hn : next l b ⟨pc, g, bs, w, d⟩ = free ⟨pc, g, bs, w, d⟩ 1 bs.isEmpty := by simp only [next, hx]
    have hlen : (l.length : Int) ≤ pc := by
      have := List.getElem?_eq_none_iff.1 hx
      omega
    rw [hn]
    cases w <;> cases bs <;> simp [free, hlen]
  | some x =>
    by_cases h3 : x.op = 3
    · have hn : next l b ⟨pc, g, bs, w, d⟩ = free ⟨pc, g, bs, w, d⟩ 2 true := by simp only [next, hx, h3, true_or, if_true]
      rw [hn]
      cases w <;> simp [free, h3]
    by_cases h8 : x.op = 8
    · have hn : next l b ⟨pc, g, bs, w, d⟩ = free ⟨pc, g, bs, w, d⟩ 2 true := by simp only [next, hx, h8, or_true, if_true]
      rw [hn]
      cases w <;> simp [free, h8]
    by_cases h7 : x.op = 7
    · have hn : next l b ⟨pc, g, bs, w, d⟩ = free ⟨pc, g, bs, w, d⟩ 2 (bs.isEmpty || x.mode != 3) := by
        simp only [next, hx, h7]
        simp
      rw [hn]
      by_cases hm : x.mode = 3 <;> cases w <;> cases bs <;> simp [free, h7, hm]
    by_cases h2 : x.op = 2
    · by_cases hb : b > 0
      · have hn : next l b ⟨pc, g, bs, w, d⟩ = free ⟨pc, g, bs, w, d⟩ 2 (decide ((bs.length : Int) < b)) := by
          simp only [next, hx, h2]
          simp [hb]
        rw [hn]
        by_cases hl : (bs.length : Int) < b
        · cases w <;> simp [free, h2, hl]
        · have : bs ≠ [] := by
            rintro rfl
            simp at hl
            omega
          cases w <;> simp [free, h2, hl, this]
      · have hn : next l b ⟨pc, g, bs, w, d⟩ = free ⟨pc, g, bs, w, d⟩ 3 (!d) := by
          simp only [next, hx, h2]
          simp [hb]
        rw [hn]
        have : b ≤ 0 := by omega
        cases w <;> cases d <;> simp [free, h2, this]
    by_cases h1 : x.op = 1
    · cases hy : young x.loc bs with
      | none =>
        have hn : next l b ⟨pc, g, bs, w, d⟩ = free ⟨pc, g, bs, w, d⟩ 3 (!d) := by
          simp only [next, hx, h1]
          simp [hy]
        rw [hn]
        cases w <;> cases d <;> simp [free, h1, hy]
      | some v =>
        have hn : next l b ⟨pc, g, bs, w, d⟩ = free ⟨pc, g, bs, w, d⟩ 2 true := by
          simp only [next, hx, h1]
          simp [hy]
        rw [hn]
        cases w <;> simp [free, h1, hy]
    by_cases h4 : x.op = 4 ∨ x.op = 5 ∨ x.op = 6
    · have hn : next l b ⟨pc, g, bs, w, d⟩ = free ⟨pc, g, bs, w, d⟩ 3 (bs.isEmpty && !d) := by
        simp only [next, hx]
        simp [h1, h2, h3, h7, h8, h4]
      rw [hn]
      cases w <;> cases d <;> cases bs <;> simp [free, h4]
    · have hn : next l b ⟨pc, g, bs, w, d⟩ = 4 := by
        simp only [next, hx]
        simp [h1, h2, h3, h7, h8, h4]
      rw [hn]
      refine .inr (.inr (.inr ⟨rfl, .inr (.inr (.inr ⟨x, rfl, ?_⟩))⟩))
      omega
/-- What Local leaves. -/
theorem loc1_facts {x : Ins} {l : List Ins} {c : Core} (p1 : 0 ≤ c.pc) (p2 : c.pc ≤ 255) (hp : c.pc < l.length) (hs : 0 ≤ x.skip) (hop : x.op = 1 ∨ x.op = 2 ∨ x.op = 3 ∨ x.op = 7 ∨ x.op = 8) :
    ((loc1 x l c).buf = c.buf ∨ ∃ p, (loc1 x l c).buf = c.buf ++ [p]) ∧ (loc1 x l c).waits = c.waits ∧ (loc1 x l c).drain = c.drain ∧ (∃ d : Nat, ∀ i, i ≠ d → (loc1 x l c).g i = c.g i) ∧ ((loc1 x l c).pc > c.pc ∨ c.pc = 255) := by
  have hset : ∀ v, ∃ d : Nat, ∀ i, i ≠ d → set c.g x.dst v i = c.g i := fun v => ⟨x.dst.toNat, fun i hi => by simp [set, hi]⟩
  have hon : ∀ n, 1 ≤ n → on l c.pc n > c.pc ∨ c.pc = 255 := fun n hn => by
    unfold on
    omega
  by_cases h3 : x.op = 3
  · simp only [loc1, h3, if_true]
    exact ⟨.inl trivial, trivial, trivial, hset _, hon 1 (by omega)⟩
  by_cases h8 : x.op = 8
  · simp only [loc1, h8]
    refine ⟨.inl rfl, rfl, rfl, ⟨0, fun i _ => rfl⟩, ?_⟩
    simp only [Int.reduceEq, if_false, if_true]
    refine hon _ ?_
    split <;> omega
  by_cases h7 : x.op = 7
  · simp only [loc1, h7]
    exact ⟨.inl rfl, rfl, rfl, ⟨0, fun i _ => rfl⟩, hon 1 (by omega)⟩
  by_cases h2 : x.op = 2
  · simp only [loc1, h2]
    exact ⟨.inr ⟨_, rfl⟩, rfl, rfl, ⟨0, fun i _ => rfl⟩, hon 1 (by omega)⟩
  have h1 : x.op = 1 := by omega
  simp only [loc1, h1]
  refine ⟨.inl rfl, rfl, rfl, ?_, hon 1 (by omega)⟩
  simp only [Int.reduceEq, if_false, if_true]
  cases young x.loc c.buf with
  | none => exact ⟨0, fun i _ => rfl⟩
  | some v => exact hset v
end Go.Proofs.Ytkpolehpdgnliaa.Pl
