/- The plain law of WalkReads: what is read line by line is printed line by line. -/
import Derived.Test.YtijpomemobgddaaGreatDoorSA
set_option linter.unusedSimpArgs false
set_option linter.unusedVariables false
namespace Go.Proofs.YtijpomemobgddaaGreatDoor.Ev
open Go Go.RowKit
set_option maxRecDepth 100000
theorem idxB_not : ∀ (l : List UInt8) (i : Int), (10 : UInt8) ∉ l → idxB 10 l i = -1
  | [], i, _ => by simp [idxB]
  | b :: l, i, h => by
    have hb : Nat.beq b.toNat 10 = false := by
      rw [Bool.eq_false_iff]
      intro h'
      have h2 : b = 10 := UInt8.toNat_inj.1 (Nat.eq_of_beq_eq_true h')
      exact h (by rw [h2]; simp)
    rw [idxB, hb, cond_false]
    exact idxB_not l _ fun h' => h (.tail _ h')
theorem idxB_at : ∀ (p r : List UInt8) (i : Int), (10 : UInt8) ∉ p → idxB 10 (p ++ 10 :: r) i = i + p.length
  | [], r, i, _ => by
    have hb : Nat.beq (10 : UInt8).toNat 10 = true := rfl
    rw [List.nil_append, idxB, hb, cond_true]
    simp
  | b :: p, r, i, h => by
    have hb : Nat.beq b.toNat 10 = false := by
      rw [Bool.eq_false_iff]
      intro h'
      have h2 : b = 10 := UInt8.toNat_inj.1 (Nat.eq_of_beq_eq_true h')
      exact h (by rw [h2]; simp)
    rw [List.cons_append, idxB, hb, cond_false, idxB_at p r _ fun h' => h (.tail _ h'), List.length_cons]
    omega
theorem cutA_no {l : List UInt8} (h : (10 : UInt8) ∉ l) : cutA 10 ⟨⟨l⟩⟩ = (⟨⟨l⟩⟩, .empty, false) := by
  unfold cutA
  rw [if_neg]
  show ¬ 0 ≤ idxB 10 l 0
  rw [idxB_not l 0 h]
  omega
theorem cutA_at {p r : List UInt8} (h : (10 : UInt8) ∉ p) : cutA 10 ⟨⟨p ++ 10 :: r⟩⟩ = (⟨⟨p⟩⟩, ⟨⟨r⟩⟩, true) := by
  have h1 : idxB 10 (⟨⟨p ++ 10 :: r⟩⟩ : ByteArray).data.toList 0 = (p.length : Int) := by
    have := idxB_at p r 0 h
    show idxB 10 (p ++ 10 :: r) 0 = _
    omega
  unfold cutA
  rw [h1, if_pos (by omega)]
  have hs : (⟨⟨p ++ 10 :: r⟩⟩ : ByteArray).size = p.length + 1 + r.length := by
    show (p ++ 10 :: r).length = _
    simp
    omega
  rw [hs]
  have e1 : (⟨⟨p ++ 10 :: r⟩⟩ : ByteArray).extract 0 (p.length : Int).toNat = ⟨⟨p⟩⟩ := by
    apply ByteArray.ext
    apply Array.ext'
    simp [ByteArray.data_extract]
  have e2 : (⟨⟨p ++ 10 :: r⟩⟩ : ByteArray).extract ((p.length : Int).toNat + 1) (p.length + 1 + r.length) = ⟨⟨r⟩⟩ := by
    apply ByteArray.ext
    apply Array.ext'
    simp [ByteArray.data_extract]
  rw [e1, e2]
/-- Whole lines, one behind the other. -/
def cat : List (List UInt8) → List UInt8
  | [] => []
  | p :: ps => p ++ 10 :: cat ps
theorem cases10 (l : List UInt8) : (10 : UInt8) ∉ l ∨ ∃ p r, l = p ++ 10 :: r ∧ (10 : UInt8) ∉ p := by
  by_cases h : (10 : UInt8) ∈ l
  · obtain ⟨p, r, h1, h2⟩ := List.eq_append_cons_of_mem h
    exact .inr ⟨p, r, h1, h2⟩
  · exact .inl h
section
variable (rd : ByteArray → Option (List Value))
theorem lp_zero (k : Nat) (xs : List (List Value)) (n : Nat) : lp rd k ⟨⟨[]⟩⟩ xs n = (xs, 0, true) := by
  cases k with
  | zero => rfl
  | succ k => rw [lp]; exact if_pos rfl
theorem lp_no {k n : Nat} {t : List UInt8} {xs : List (List Value)} (h0 : t ≠ []) (h : (10 : UInt8) ∉ t) : lp rd (k + 1) ⟨⟨t⟩⟩ xs n = ([], n + 1, false) := by
  have hs : ¬ (⟨⟨t⟩⟩ : ByteArray).size = 0 := fun h => h0 (List.eq_nil_of_length_eq_zero h)
  rw [lp, if_neg hs, cutA_no h]
  simp only
  split
  · rename_i h
    cases h
  · rfl
theorem lp_at {k n : Nat} {p r : List UInt8} {xs : List (List Value)} (h : (10 : UInt8) ∉ p) : lp rd (k + 1) ⟨⟨p ++ 10 :: r⟩⟩ xs n = match rd ⟨⟨p⟩⟩ with
    | some x => lp rd k ⟨⟨r⟩⟩ (xs ++ [x]) (n + 1)
    | none => ([], n + 1, false) := by
  have hs : ¬ (⟨⟨p ++ 10 :: r⟩⟩ : ByteArray).size = 0 := by
    show ¬ (p ++ 10 :: r).length = 0
    simp
  rw [lp, if_neg hs, cutA_at h]
  simp only
  cases rd ⟨⟨p⟩⟩ <;> rfl
theorem lp_ok : ∀ (k : Nat) (t : List UInt8) (xs : List (List Value)) (n : Nat) (xs' : List (List Value)), t.length ≤ k → lp rd k ⟨⟨t⟩⟩ xs n = (xs', 0, true) →
    ∃ zs : List (List UInt8 × List Value), (∀ z ∈ zs, rd ⟨⟨z.1⟩⟩ = some z.2 ∧ z.1.length ≤ t.length) ∧ xs' = xs ++ zs.map (·.2) ∧ t = cat (zs.map (·.1)) ∧ zs.length ≤ t.length
  | 0, t, xs, n, xs', hk, h => by
    obtain rfl := List.eq_nil_of_length_eq_zero (Nat.le_zero.1 hk)
    rw [lp_zero] at h
    cases h
    exact ⟨[], by simp, by simp, rfl, Nat.le_refl _⟩
  | k + 1, t, xs, n, xs', hk, h => by
    by_cases h0 : t = []
    · subst h0
      rw [lp_zero] at h
      cases h
      exact ⟨[], by simp, by simp, rfl, Nat.le_refl _⟩
    · rcases cases10 t with h1 | ⟨p, r, rfl, h1⟩
      · rw [lp_no rd h0 h1] at h
        cases h
      · rw [lp_at rd h1] at h
        have hl : (p ++ 10 :: r).length = p.length + 1 + r.length := by simp; omega
        cases hp : rd ⟨⟨p⟩⟩ with
        | none =>
          rw [hp] at h
          cases h
        | some x =>
          rw [hp] at h
          obtain ⟨zs, a1, a2, a3, a4⟩ := lp_ok k r (xs ++ [x]) (n + 1) xs' (by omega) h
          refine ⟨(p, x) :: zs, ?_, ?_, ?_, ?_⟩
          · intro z hz
            rcases List.mem_cons.1 hz with rfl | hz
            · exact ⟨hp, by simp⟩
            · obtain ⟨b1, b2⟩ := a1 z hz
              exact ⟨b1, by omega⟩
          · rw [a2]
            simp
          · rw [List.map_cons, cat, ← a3]
          · rw [List.length_cons]
            omega
theorem lp_bad : ∀ (k : Nat) (t : List UInt8) (xs : List (List Value)) (n m : Nat), t.length ≤ k → lp rd k ⟨⟨t⟩⟩ xs n = ([], m, false) →
    ∃ (ps : List (List UInt8)) (suf : List UInt8), t = cat ps ++ suf ∧ suf ≠ [] ∧ m = n + ps.length + 1 ∧ ∀ p ∈ ps, (10 : UInt8) ∉ p ∧ ∃ x, rd ⟨⟨p⟩⟩ = some x
  | 0, t, xs, n, m, hk, h => by cases h
  | k + 1, t, xs, n, m, hk, h => by
    by_cases h0 : t = []
    · subst h0
      rw [lp_zero] at h
      cases h
    · rcases cases10 t with h1 | ⟨p, r, rfl, h1⟩
      · rw [lp_no rd h0 h1] at h
        cases h
        exact ⟨[], t, rfl, h0, rfl, by simp⟩
      · rw [lp_at rd h1] at h
        have hl : (p ++ 10 :: r).length = p.length + 1 + r.length := by simp; omega
        cases hp : rd ⟨⟨p⟩⟩ with
        | none =>
          rw [hp] at h
          cases h
          exact ⟨[], p ++ 10 :: r, rfl, by simp, rfl, by simp⟩
        | some x =>
          rw [hp] at h
          obtain ⟨ps, suf, a1, a2, a3, a4⟩ := lp_bad k r (xs ++ [x]) (n + 1) m (by omega) h
          refine ⟨p :: ps, suf, ?_, a2, ?_, ?_⟩
          · rw [cat, a1]
            simp
          · rw [a3, List.length_cons]
            omega
          · intro q hq
            rcases List.mem_cons.1 hq with rfl | hq
            · exact ⟨h1, x, hp⟩
            · exact a4 q hq
theorem lp_cat : ∀ (ps : List (List UInt8)) (k : Nat) (xs : List (List Value)) (n : Nat), (cat ps).length ≤ k → (∀ p ∈ ps, (10 : UInt8) ∉ p ∧ ∃ x, rd ⟨⟨p⟩⟩ = some x) → ∃ xs', lp rd k ⟨⟨cat ps⟩⟩ xs n = (xs', 0, true)
  | [], k, xs, n, _, _ => ⟨xs, lp_zero rd k xs n⟩
  | p :: ps, k, xs, n, hk, h => by
    obtain ⟨h1, x, hx⟩ := h p (.head _)
    have hl : (p ++ 10 :: cat ps).length = p.length + 1 + (cat ps).length := by simp; omega
    rw [cat] at hk ⊢
    obtain ⟨k, rfl⟩ : ∃ j, k = j + 1 := ⟨k - 1, by omega⟩
    rw [lp_at rd h1, hx]
    exact lp_cat ps k _ _ (by omega) fun q hq => h q (.tail _ hq)
end
theorem txM_zs (fm : List Value → ByteArray × Bool) : ∀ (zs : List (List UInt8 × List Value)) (bs : List UInt8), (∀ z ∈ zs, fm z.2 = (⟨⟨z.1⟩⟩, true)) → txM fm (zs.map (·.2)) bs = some (bs ++ cat (zs.map (·.1)))
  | [], bs, _ => by simp [txM, cat]
  | z :: zs, bs, h => by
    rw [List.map_cons, List.map_cons, txM, h z (.head _), if_pos rfl, txM_zs fm zs _ fun y hy => h y (.tail _ hy), cat]
    simp
open Classical in
/-- What format gives. -/
noncomputable def fmE (x : List Value) : ByteArray × Bool := if h : ∃ s, EvQ Cx 19 [stX x] (.tup [Sv s, Bo true]) then (Classical.choose h, true) else (.empty, false)
theorem fmE_eq {x : List Value} {s : ByteArray} (h : EvQ Cx 19 [stX x] (.tup [Sv s, Bo true])) : fmE x = (s, true) := by
  have hx : ∃ s, EvQ Cx 19 [stX x] (.tup [Sv s, Bo true]) := ⟨s, h⟩
  unfold fmE
  rw [dif_pos hx]
  have h1 := h.one (Classical.choose_spec hx)
  injection h1 with h1
  injection h1 with h1
  injection h1 with h1
  injection h1 with h1
  rw [h1]
theorem rd_empty {rd : ByteArray → Option (List Value)} (hrd : LineOk rd) : rd ⟨⟨[]⟩⟩ = none := by
  have h1 : EvQ Cx 18 [Sv ⟨⟨[]⟩⟩] (readR none) := ⟨1000, by kernel_rfl⟩
  have h2 := (hrd ⟨⟨[]⟩⟩ (by decide)).1.one h1
  cases h : rd ⟨⟨[]⟩⟩ with
  | none => rfl
  | some x =>
    rw [h] at h2
    unfold readR at h2
    injection h2 with h2
    injection h2 with _ h2
    injection h2 with h2
    injection h2 with h2
    injection h2 with h2
    cases h2
/-- What the law counts: the line and its place. -/
def scn (m : Int) : List UInt8 → Int → Int → Int → Int × Int
  | [], _, line, at' => (line, at')
  | b :: l, i, line, at' => if line < m then (if b = 10 then scn m l (i + 1) (line + 1) (i + 1) else scn m l (i + 1) line at') else (line, at')
theorem scn_stop (m : Int) (l : List UInt8) (i at' : Int) : scn m l i m at' = (m, at') := by
  cases l with
  | nil => rfl
  | cons b l => rw [scn, if_neg (by omega)]
theorem scn_line (m : Int) : ∀ (p r : List UInt8) (i line at' : Int), (10 : UInt8) ∉ p → line < m → scn m (p ++ 10 :: r) i line at' = scn m r (i + p.length + 1) (line + 1) (i + p.length + 1)
  | [], r, i, line, at', _, hm => by
    rw [List.nil_append, scn, if_pos hm, if_pos rfl]
    simp
  | b :: p, r, i, line, at', h, hm => by
    have hb : ¬ b = 10 := fun h' => h (by rw [h']; simp)
    rw [List.cons_append, scn, if_pos hm, if_neg hb, scn_line m p r _ _ _ (fun h' => h (.tail _ h')) hm, List.length_cons]
    congr 1 <;> omega
theorem scn_cat (m : Int) : ∀ (ps : List (List UInt8)) (suf : List UInt8) (i line at' : Int), (∀ p ∈ ps, (10 : UInt8) ∉ p) → line + ps.length = m → (ps = [] → at' = i) → scn m (cat ps ++ suf) i line at' = (m, i + (cat ps).length)
  | [], suf, i, line, at', _, hm, ha => by
    have : line = m := by simpa using hm
    subst this
    rw [scn_stop, ha rfl]
    simp [cat]
  | p :: ps, suf, i, line, at', h, hm, _ => by
    have hm' : line + 1 + ps.length = m := by
      rw [List.length_cons] at hm
      omega
    rw [cat, List.append_assoc, List.cons_append, scn_line m _ _ _ _ _ (h p (.head _)) (by omega), scn_cat m ps suf _ _ _ (fun q hq => h q (.tail _ hq)) hm' fun _ => rfl]
    simp
    omega
end Go.Proofs.YtijpomemobgddaaGreatDoor.Ev
