/- What the check of a region's plan says. -/
import Derived.Test.YtkpolehpdgnliaaE23
set_option linter.unusedSimpArgs false
set_option linter.unusedVariables false
namespace Go.Proofs.Ytkpolehpdgnliaa.Ev
open Go Go.RowKit

structure Plan (ops : List Oper) (n : Nat) (ord : List Nat) (k : Nat) : Prop where
  ancs : Rel.ancOk ops (Rel.masks ops []) = true
  len : ord.length = ops.length
  kle : k ≤ ops.length
  at_ : ∀ p, p < ops.length → ∃ i, ord[p]? = some i ∧ i < ops.length ∧ posOf ord i = p
  pos : ∀ i, i < ops.length → posOf ord i < ops.length ∧ ord[posOf ord i]? = some i
  dst : ∀ (i : Nat) o d, ops[i]? = some o → o.dst = some d → d < n ∧ Rel.writer ops 0 d = some i
  looks : ∀ (i : Nat) o t j, ops[i]? = some o → t ∈ o.looksAt ops.toArray → Rel.writer ops 0 t = some j → j ∈ Rel.preds o ∨ anc (Rel.masks ops []) j i = true
  preds : ∀ (i : Nat) o p, ops[i]? = some o → p ∈ Rel.preds o → posOf ord p < posOf ord i
  mem : ∀ (i j : Nat) oi oj, ops[i]? = some oi → ops[j]? = some oj → isMem oi = true → isMem oj = true → k ≤ posOf ord i → posOf ord j < posOf ord i → anc (Rel.masks ops []) i j = true ∨ (posOf ord j < k ∧ newSt ops oi = true)
  al : ∀ (i : Nat) o, ops[i]? = some o → isAl o = true → k ≤ posOf ord i ∧ ∃ u ou, ops[u]? = some ou ∧ isMem ou = true ∧ posOf ord i < posOf ord u ∧ anc (Rel.masks ops []) u i = true ∧
    (∀ (j : Nat) oj, ops[j]? = some oj → isMem oj = true → posOf ord i < posOf ord j → posOf ord u ≤ posOf ord j) ∧
    (∀ (j : Nat) oj t, ops[j]? = some oj → i ∈ Rel.preds oj → t ∈ oj.looksAt ops.toArray → Rel.writer ops 0 t = some i → j = u ∨ anc (Rel.masks ops []) j u = true)

theorem nbeq {a b : Nat} : Nat.beq a b = true ↔ a = b := ⟨Nat.eq_of_beq_eq_true, fun h => by subst h; exact Nat.beq_refl a⟩
theorem nble {a b : Nat} : Nat.ble a b = true ↔ a ≤ b := ⟨Nat.le_of_ble_eq_true, Nat.ble_eq_true_of_le⟩
theorem nblt {a b : Nat} : Nat.blt a b = true ↔ a < b := nble

theorem find_first {l : List Nat} {p : Nat → Bool} : ∀ {m : Nat} {u : Nat}, (l.drop m).find? p = some u → ∃ q, m ≤ q ∧ l[q]? = some u ∧ p u = true ∧ ∀ r, m ≤ r → r < q → ∀ v, l[r]? = some v → p v = false := by
  intro m u h
  obtain ⟨h1, as, bs, h2, h3⟩ := List.find?_eq_some_iff_append.1 h
  refine ⟨m + as.length, by omega, ?_, h1, fun r hr1 hr2 v hv => ?_⟩
  · have : (l.drop m)[as.length]? = some u := by rw [h2]; simp
    rwa [List.getElem?_drop] at this
  · have : (l.drop m)[r - m]? = some v := by rw [List.getElem?_drop, show m + (r - m) = r by omega]; exact hv
    rw [h2, List.getElem?_append_left (by omega)] at this
    simpa using h3 v (List.mem_of_getElem? this)

theorem plan_of {ops : List Oper} {n k : Nat} {ord : List Nat} (h : fine2 ops n ord k = true) : Plan ops n ord k := by
  unfold fine2 at h
  simp only [Bool.and_eq_true, nbeq, nble] at h
  obtain ⟨⟨⟨⟨⟨⟨h1, h2, h3⟩, h4⟩, h5⟩, h6⟩, h7⟩, h8⟩ := h
  have at_ : ∀ p, p < ops.length → ∃ i, ord[p]? = some i ∧ i < ops.length ∧ posOf ord i = p := by
    intro p hp
    have := List.all_eq_true.1 h4 p (List.mem_range.2 hp)
    cases ho : ord[p]? with
    | none => simp [ho] at this
    | some i =>
      simp only [ho, Bool.and_eq_true, nbeq, nblt] at this
      exact ⟨i, rfl, this⟩
  have pos : ∀ i, i < ops.length → posOf ord i < ops.length ∧ ord[posOf ord i]? = some i := by
    intro i hi
    have := List.all_eq_true.1 h5 i (List.mem_range.2 hi)
    simp only [Bool.and_eq_true, nblt] at this
    obtain ⟨k1, k2⟩ := this
    refine ⟨k1, ?_⟩
    cases ho : ord[posOf ord i]? with
    | none => simp [ho] at k2
    | some j =>
      simp only [ho, nbeq] at k2
      rw [k2]
  have each : ∀ (i : Nat) o, ops[i]? = some o → _ := fun i o ho => by
    have := List.all_eq_true.1 h6 i (List.mem_range.2 (Rel.lt_of_get ho))
    simp only [ho, Bool.and_eq_true] at this
    exact this
  refine ⟨h1, h2, h2 ▸ h3, at_, pos, fun i o d ho hd => ?_, fun i o t j ho ht hw => ?_, fun i o p ho hp => ?_, fun i j oi oj hi hj mi mj hk hlt => ?_, fun i o ho ha => ?_⟩
  · have := (each i o ho).1.1
    simp only [hd, Bool.and_eq_true, nblt, beq_iff_eq] at this
    exact this
  · have := List.all_eq_true.1 (each i o ho).1.2 t ht
    simp only [hw, Bool.or_eq_true] at this
    rcases this with h' | h'
    · left
      simpa using h'
    · exact .inr h'
  · have := List.all_eq_true.1 (each i o ho).2 p hp
    exact nblt.1 this
  · have := List.all_eq_true.1 h7 i (List.mem_range.2 (Rel.lt_of_get hi))
    simp only [opA, hi, mi, Bool.not_true, Bool.false_or, Bool.or_eq_true, nblt] at this
    rcases this with h' | h'
    · omega
    · have := List.all_eq_true.1 h' j (List.mem_range.2 (Rel.lt_of_get hj))
      simp only [hj, mj, Bool.not_true, Bool.false_or, Bool.or_eq_true, Bool.not_eq_true'] at this
      rcases this with h'' | h''
      · rw [nblt.2 hlt] at h''
        cases h''
      · rw [Bool.and_eq_true, nblt] at h''
        simpa [opA, hi] using h''
  · have := List.all_eq_true.1 h8 i (List.mem_range.2 (Rel.lt_of_get ho))
    simp only [opA, ho, ha, Bool.not_true, Bool.false_or, Bool.and_eq_true, nble] at this
    obtain ⟨hk, hu⟩ := this
    refine ⟨hk, ?_⟩
    cases hus : userOf ops ord i with
    | none => simp [hus] at hu
    | some u =>
      simp only [hus, Bool.and_eq_true] at hu
      obtain ⟨hanc, hall⟩ := hu
      obtain ⟨q, hq1, hq2, hq3, hq4⟩ := find_first hus
      have hql : q < ops.length := by
        rw [← h2]
        exact Rel.lt_of_get hq2
      obtain ⟨u', hu1, hu2, hu3⟩ := at_ q hql
      rw [hq2] at hu1
      obtain rfl := Option.some.inj hu1
      have hou : ops[u]? = some ops[u] := List.getElem?_eq_getElem hu2
      have hmu : isMem ops[u] = true := by simpa [opA, hou] using hq3
      refine ⟨u, ops[u], hou, hmu, by omega, hanc, fun j oj hj mj hlt => ?_, fun j oj t hj hp ht hw => ?_⟩
      · rcases Nat.lt_or_ge (posOf ord j) (posOf ord u) with h' | h'
        · exfalso
          obtain ⟨k1, k2⟩ := pos j (Rel.lt_of_get hj)
          have := hq4 (posOf ord j) (by omega) (by omega) j k2
          simp [opA, hj, mj] at this
        · exact h'
      · have := List.all_eq_true.1 hall j (List.mem_range.2 (Rel.lt_of_get hj))
        simp only [hj, Bool.or_eq_true, Bool.not_eq_true', nbeq] at this
        rcases this with ((h' | h') | h') | h'
        · rw [List.contains_iff_mem.2 hp] at h'
          cases h'
        · exact .inl h'
        · exact .inr h'
        · exfalso
          have := List.any_eq_false.1 h' t ht
          simp [hw] at this

theorem Plan.anc_pos {ops : List Oper} {n k : Nat} {ord : List Nat} (h : Plan ops n ord k) : ∀ (i j : Nat), i < ops.length → anc (Rel.masks ops []) i j = true → j < i ∧ posOf ord j < posOf ord i := by
  intro i
  induction i using Nat.strongRecOn with
  | ind i ih =>
    intro j hi hb
    have ho : ops[i]? = some ops[i] := List.getElem?_eq_getElem hi
    obtain ⟨h1, h2⟩ := Rel.ancOk_at h.ancs ho
    obtain ⟨hj, p, hp, hpj⟩ := h2 j hb
    refine ⟨hj, ?_⟩
    have hpp := h.preds i _ p ho hp
    rcases hpj with rfl | hpj
    · exact hpp
    · have := (ih p (h1 p hp) j (by have := h1 p hp; omega) hpj).2
      omega
end Go.Proofs.Ytkpolehpdgnliaa.Ev
