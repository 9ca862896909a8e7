/- The canonical run of a region, operation by operation. -/
import Derived.Test.YtkpolehpdgnliaaE24
set_option linter.unusedSimpArgs false
set_option linter.unusedVariables false
namespace Go.Proofs.Ytkpolehpdgnliaa.Ev
open Go Go.RowKit
variable {P : Program} {T : Tb}

def stepA (T : Tb) (ov : Orc) (st : St) (m : MOp) : Option (A × Heap) :=
  match wants st.env m.guard with
  | none => none
  | some false => some (.v undef, st.H)
  | some true => anyOp T ov st m.op
structure Trace (T : Tb) (q : OrcQ) (ov : Orc) (k : Nat) (ms : List MOp) (st : St) (xs : List A) (Hs : Nat → Heap) : Prop where
  len : xs.length = ms.length
  low : ∀ p, p ≤ k → Hs p = st.H
  free : ∀ (p : Nat) m, p < k → ms[p]? = some m → ∃ x, xs[p]? = some x ∧ stepF T q ⟨puts st.env (ms.take p) (xs.take p), st.H⟩ m = some x
  tail : ∀ (p : Nat) m, k ≤ p → ms[p]? = some m → ∃ x, xs[p]? = some x ∧ stepA T ov ⟨puts st.env (ms.take p) (xs.take p), Hs p⟩ m = some (x, Hs (p + 1))

theorem tail_split {q : OrcQ} {ov : Orc} : ∀ (ms : List MOp) (st st' : St), runOps T q ov 0 ms st = some st' →
    ∃ (xs : List A) (Hs : Nat → Heap), xs.length = ms.length ∧ Hs 0 = st.H ∧ st' = ⟨puts st.env ms xs, Hs ms.length⟩ ∧ ∀ (p : Nat) m, ms[p]? = some m → ∃ x, xs[p]? = some x ∧ stepA T ov ⟨puts st.env (ms.take p) (xs.take p), Hs p⟩ m = some (x, Hs (p + 1))
  | [], st, st', h => by
    simp [runOps] at h
    subst h
    exact ⟨[], fun _ => st.H, rfl, rfl, rfl, fun p m h => by simp at h⟩
  | m :: ms, st, st', h => by
    have hstep : ∃ x H', stepA T ov st m = some (x, H') ∧ runOps T q ov 0 ms ⟨put st.env m.dst x, H'⟩ = some st' := by
      unfold runOps at h
      unfold stepA
      cases hw : wants st.env m.guard with
      | none => simp [hw] at h
      | some b =>
        cases b with
        | false =>
          simp only [hw] at h
          exact ⟨_, _, rfl, h⟩
        | true =>
          simp only [hw] at h
          cases hf : anyOp T ov st m.op with
          | none => simp [hf] at h
          | some x =>
            obtain ⟨x, H'⟩ := x
            simp only [hf] at h
            exact ⟨x, H', rfl, h⟩
    obtain ⟨x, H', h1, h2⟩ := hstep
    obtain ⟨xs, Hs, h3, h4, h5, h6⟩ := tail_split ms _ st' h2
    refine ⟨x :: xs, fun p => match p with | 0 => st.H | p + 1 => Hs p, by simp [h3], rfl, by simpa [puts] using h5, fun p m' hm => ?_⟩
    cases p with
    | zero =>
      simp at hm
      subst hm
      refine ⟨x, rfl, ?_⟩
      simp only [List.take_zero, puts]
      rw [h1, h4]
    | succ p =>
      obtain ⟨z, h7, h8⟩ := h6 p m' (by simpa using hm)
      exact ⟨z, by simpa using h7, by simpa [puts] using h8⟩
theorem puts_append : ∀ (ms ms' : List MOp) (xs ys : List A) (e : Env), xs.length = ms.length → puts e (ms ++ ms') (xs ++ ys) = puts (puts e ms xs) ms' ys
  | [], ms', [], ys, e, _ => rfl
  | [], _, _ :: _, _, _, h => by simp at h
  | _ :: _, _, [], _, _, h => by simp at h
  | m :: ms, ms', x :: xs, ys, e, h => by
    simp only [List.cons_append, puts]
    exact puts_append ms ms' xs ys _ (by simpa using h)
theorem trace_of {q : OrcQ} {ov : Orc} {k : Nat} {ms : List MOp} {st st' : St} (hk : k ≤ ms.length) (h : runOps T q ov k ms st = some st') :
    ∃ (xs : List A) (Hs : Nat → Heap), Trace T q ov k ms st xs Hs ∧ st' = ⟨puts st.env ms xs, Hs ms.length⟩ := by
  obtain ⟨x1, h1, h2, h3⟩ := free_split ms k st st' hk h
  obtain ⟨x2, Hs, h4, h5, h6, h7⟩ := tail_split _ _ _ h2
  have hl : x1.length = (ms.take k).length := by rw [h1, List.length_take]; omega
  have hl2 : x2.length = ms.length - k := by rw [h4, List.length_drop]
  have tk : ∀ p, k ≤ p → ms.take p = ms.take k ++ (ms.drop k).take (p - k) := fun p hp => by
    have : p = k + (p - k) := by omega
    rw [this, List.take_add]
    simp
  have tx : ∀ p, k ≤ p → (x1 ++ x2).take p = x1 ++ x2.take (p - k) := fun p hp => by
    rw [List.take_append, h1, List.take_of_length_le (by omega)]
  refine ⟨x1 ++ x2, fun p => if p ≤ k then st.H else Hs (p - k), ⟨by simp; omega, fun p hp => if_pos hp, fun p m hp hm => ?_, fun p m hp hm => ?_⟩, ?_⟩
  · obtain ⟨x, k1, k2⟩ := h3 p m hp hm
    refine ⟨x, by rw [List.getElem?_append_left (by omega)]; exact k1, ?_⟩
    rw [List.take_append_of_le_length (by omega)]
    exact k2
  · obtain ⟨x, k1, k2⟩ := h7 (p - k) m (by rw [List.getElem?_drop, show k + (p - k) = p by omega]; exact hm)
    refine ⟨x, by rw [List.getElem?_append_right (by omega), h1]; exact k1, ?_⟩
    rw [tk p hp, tx p hp, puts_append _ _ _ _ _ hl]
    have e1 : (if p ≤ k then st.H else Hs (p - k)) = Hs (p - k) := by
      split
      · have : p - k = 0 := by omega
        rw [this, h5]
      · rfl
    have e2 : (if p + 1 ≤ k then st.H else Hs (p + 1 - k)) = Hs (p - k + 1) := by
      rw [if_neg (by omega), show p + 1 - k = p - k + 1 by omega]
    rw [e1, e2]
    exact k2
  · rw [h6]
    congr 1
    · have e := puts_append (ms.take k) (ms.drop k) x1 x2 st.env hl
      rw [List.take_append_drop] at e
      exact e.symm
    · simp only [List.length_drop]
      split
      · have : ms.length - k = 0 := by omega
        rw [this, h5]
      · rfl

def cmpOrd (n : Nat) (ops : List Oper) : List Nat → Option (List MOp)
  | [] => some []
  | i :: l => match ops[i]? with
    | none => none
    | some o => match cmpOp n ops o, cmpOrd n ops l with
      | some m, some ms => some (m :: ms)
      | _, _ => none
theorem cmpOrd_get {n : Nat} {ops : List Oper} : ∀ {l : List Nat} {ms : List MOp}, cmpOrd n ops l = some ms → ms.length = l.length ∧ ∀ (p i : Nat), l[p]? = some i → ∃ o m, ops[i]? = some o ∧ ms[p]? = some m ∧ CmpOk n ops o m
  | [], ms, h => by
    simp [cmpOrd] at h
    subst h
    exact ⟨rfl, fun i o h => by simp at h⟩
  | i :: l, ms, h => by
    unfold cmpOrd at h
    cases h0 : ops[i]? with
    | none => simp [h0] at h
    | some o =>
      cases h1 : cmpOp n ops o with
      | none => simp [h0, h1] at h
      | some m =>
        cases h2 : cmpOrd n ops l with
        | none => simp [h0, h1, h2] at h
        | some ms' =>
          simp only [h0, h1, h2, Option.some.injEq] at h
          subst h
          obtain ⟨h3, h4⟩ := cmpOrd_get h2
          refine ⟨by simp [h3], fun p i' hp => ?_⟩
          cases p with
          | zero =>
            simp at hp
            subst hp
            exact ⟨o, m, h0, rfl, cmpOp_ok h1⟩
          | succ p => simpa using h4 p i' (by simpa using hp)

section
variable {ops : List Oper} {n k : Nat} {ord : List Nat} {ms : List MOp} {xs : List A} {e : Env}
theorem Plan.inj (h : Plan ops n ord k) {i j : Nat} (hi : i < ops.length) (hj : j < ops.length) (he : posOf ord i = posOf ord j) : i = j := by
  have h1 := (h.pos i hi).2
  have h2 := (h.pos j hj).2
  rw [he] at h1
  exact Option.some.inj (h1.symm.trans h2)
/-- What the canonical order has in a slot ahead of a position. -/
theorem canon_some (h : Plan ops n ord k) (hc : cmpOrd n ops ord = some ms) {t w p : Nat} {x : A} (hw : Rel.writer ops 0 t = some w) (hp : posOf ord w < p) (hx : xs[posOf ord w]? = some x) : look (puts e (ms.take p) (xs.take p)) t = some x := by
  obtain ⟨hml, hmg⟩ := cmpOrd_get hc
  obtain ⟨-, o, ho, hd⟩ := Rel.writer_some hw
  have ho' : ops[w]? = some o := by simpa using ho
  have hwl := Rel.lt_of_get ho'
  obtain ⟨o1, m, ho1, hm, hcm⟩ := hmg _ _ (h.pos w hwl).2
  obtain rfl := Option.some.inj (ho'.symm.trans ho1)
  refine look_puts_at _ _ e (posOf ord w) m x (by rw [List.getElem?_take_of_lt hp]; exact hm) (by rw [List.getElem?_take_of_lt hp]; exact hx) (by rw [hcm.dst]; exact hd) fun i' m' hi' hd' => ?_
  have hlt : i' < p := by
    have := (List.getElem?_eq_some_iff.1 hi').1
    simp at this
    omega
  rw [List.getElem?_take_of_lt hlt] at hi'
  have hil : i' < ops.length := by
    have := Rel.lt_of_get hi'
    rw [hml, h.len] at this
    exact this
  obtain ⟨j, hj1, hj2, hj3⟩ := h.at_ i' hil
  obtain ⟨o2, m2, ho2, hm2, hcm2⟩ := hmg _ _ hj1
  obtain rfl := Option.some.inj (hi'.symm.trans hm2)
  rw [hcm2.dst] at hd'
  have := (h.dst j o2 t ho2 hd').2
  rw [hw] at this
  obtain rfl := Option.some.inj this
  exact hj3.symm
theorem canon_none (h : Plan ops n ord k) (hc : cmpOrd n ops ord = some ms) {t p : Nat} (hw : ∀ w, Rel.writer ops 0 t = some w → p ≤ posOf ord w) : look (puts e (ms.take p) (xs.take p)) t = look e t := by
  obtain ⟨hml, hmg⟩ := cmpOrd_get hc
  refine look_puts_not _ _ e fun m' hm' hd' => ?_
  obtain ⟨i', hi'⟩ := List.mem_iff_getElem?.1 hm'
  have hlt : i' < p := by
    have := (List.getElem?_eq_some_iff.1 hi').1
    simp at this
    omega
  rw [List.getElem?_take_of_lt hlt] at hi'
  have hil : i' < ops.length := by
    have := Rel.lt_of_get hi'
    rw [hml, h.len] at this
    exact this
  obtain ⟨j, hj1, hj2, hj3⟩ := h.at_ i' hil
  obtain ⟨o2, m2, ho2, hm2, hcm2⟩ := hmg _ _ hj1
  obtain rfl := Option.some.inj (hi'.symm.trans hm2)
  rw [hcm2.dst] at hd'
  have := hw j (h.dst j o2 t ho2 hd').2
  omega
end
end Go.Proofs.Ytkpolehpdgnliaa.Ev
