/- Drawn regions in segments: each segment drawn by itself, behind all of the one before. -/
import Derived.Test.YtnhknhniemfnjaaGreatDoorE28
set_option linter.unusedSimpArgs false
set_option linter.unusedVariables false
namespace Go.Proofs.YtnhknhniemfnjaaGreatDoor.Ev
open Go Go.RowKit
variable {P : Program} {T : Tb}

/-- What is asked of a segment, some operations having come up ahead of it. -/
structure Seg (ops : List Oper) (n : Nat) (seg : List Nat) (k : Nat) (done : List Nat) : Prop where
  ancs : Rel.ancOk ops (Rel.masks ops []) = true
  kle : k ≤ seg.length
  at_ : ∀ p, p < seg.length → ∃ i, seg[p]? = some i ∧ i < ops.length ∧ posOf seg i = p
  fresh : ∀ i, i ∈ seg → i ∉ done
  noal : ∀ (i : Nat) o, ops[i]? = some o → isAl o = false
  dst : ∀ (i : Nat) o d, ops[i]? = some o → o.dst = some d → d < n ∧ Rel.writer ops 0 d = some i
  looks : ∀ (i : Nat) o t j, ops[i]? = some o → t ∈ o.looksAt ops.toArray → Rel.writer ops 0 t = some j → j ∈ Rel.preds o ∨ anc (Rel.masks ops []) j i = true
  ups : ∀ i j, i ∈ seg → j ∈ seg → anc (Rel.masks ops []) i j = true → posOf seg j < posOf seg i
  preds : ∀ (i : Nat) o p, i ∈ seg → ops[i]? = some o → p ∈ Rel.preds o → p ∈ done ∨ (p ∈ seg ∧ posOf seg p < posOf seg i)
  mem : ∀ (i j : Nat) oi oj, i ∈ seg → j ∈ seg → ops[i]? = some oi → ops[j]? = some oj → isMem oi = true → isMem oj = true → k ≤ posOf seg i → posOf seg j < posOf seg i → anc (Rel.masks ops []) i j = true ∨ (posOf seg j < k ∧ agn ops oj = true)
  gate : ∀ i, i < ops.length → i ∉ done → i ∉ seg → ∀ j, j ∈ seg → anc (Rel.masks ops []) i j = true

def inL (l : List Nat) (i : Nat) : Bool := l.any (fun j => Nat.beq j i)
theorem inL_iff {l : List Nat} {i : Nat} : inL l i = true ↔ i ∈ l := by
  unfold inL
  rw [List.any_eq_true]
  constructor
  · rintro ⟨j, h1, h2⟩
    rw [← nbeq.1 h2]
    exact h1
  · exact fun h => ⟨i, h, Nat.beq_refl i⟩
/-- The part of it that has nothing to do with the segment. -/
def fineR (ops : List Oper) (n : Nat) (M : List Nat) : Bool :=
  Rel.ancOk ops M && (List.range ops.length).all fun i => match ops[i]? with
    | none => false
    | some o => !(isAl o) && (match o.dst with | none => true | some d => Nat.blt d n && Rel.writer ops 0 d == some i) &&
      ((o.looksAt ops.toArray).all fun t => match Rel.writer ops 0 t with | none => true | some j => (Rel.preds o).contains j || anc M j i)
def fineG (ops : List Oper) (M : List Nat) (seg : List Nat) (k : Nat) (done : List Nat) : Bool :=
  Nat.ble k seg.length &&
  ((List.range seg.length).all fun p => match seg[p]? with | some i => Nat.blt i ops.length && Nat.beq (posOf seg i) p | none => false) &&
  (seg.all fun i => !(inL done i)) &&
  (seg.all fun i => seg.all fun j => !(anc M i j) || Nat.blt (posOf seg j) (posOf seg i)) &&
  (seg.all fun i => match ops[i]? with | none => false | some o => (Rel.preds o).all fun p => inL done p || (inL seg p && Nat.blt (posOf seg p) (posOf seg i))) &&
  (seg.all fun i => !(opA ops isMem i) || Nat.blt (posOf seg i) k || seg.all fun j => !(opA ops isMem j) || !(Nat.blt (posOf seg j) (posOf seg i)) || (anc M i j || (Nat.blt (posOf seg j) k && opA ops (agn ops) j))) &&
  ((List.range ops.length).all fun i => inL done i || inL seg i || seg.all fun j => anc M i j)
theorem seg_of {ops : List Oper} {n k : Nat} {seg done : List Nat} (hr : fineR ops n (Rel.masks ops []) = true) (h : fineG ops (Rel.masks ops []) seg k done = true) : Seg ops n seg k done := by
  unfold fineR at hr
  unfold fineG at h
  simp only [Bool.and_eq_true, nble] at h hr
  obtain ⟨⟨⟨⟨⟨⟨h1, h2⟩, h3⟩, h4⟩, h5⟩, h6⟩, h7⟩ := h
  obtain ⟨r1, r2⟩ := hr
  have each : ∀ (i : Nat) o, ops[i]? = some o → _ := fun i o ho => by
    have := List.all_eq_true.1 r2 i (List.mem_range.2 (Rel.lt_of_get ho))
    simp only [ho, Bool.and_eq_true] at this
    exact this
  refine ⟨r1, h1, fun p hp => ?_, fun i hi hd => ?_, fun i o ho => ?_, fun i o d ho hd => ?_, fun i o t j ho ht hw => ?_, fun i j hi hj ha => ?_, fun i o p hi ho hp => ?_, fun i j oi oj hi hj hoi hoj mi mj hk hlt => ?_, fun i hi hd hs j hj => ?_⟩
  · have := List.all_eq_true.1 h2 p (List.mem_range.2 hp)
    cases ho : seg[p]? with
    | none => simp [ho] at this
    | some i =>
      simp only [ho, Bool.and_eq_true, nbeq, nblt] at this
      exact ⟨i, rfl, this⟩
  · have := List.all_eq_true.1 h3 i hi
    rw [inL_iff.2 hd] at this
    cases this
  · have := (each i o ho).1.1
    simpa using this
  · have := (each i o ho).1.2
    simp only [hd, Bool.and_eq_true, nblt, beq_iff_eq] at this
    exact this
  · have := List.all_eq_true.1 (each i o ho).2 t ht
    simp only [hw, Bool.or_eq_true] at this
    rcases this with h' | h'
    · left
      simpa using h'
    · exact .inr h'
  · have := List.all_eq_true.1 (List.all_eq_true.1 h4 i hi) j hj
    simp only [ha, Bool.not_true, Bool.false_or, nblt] at this
    exact this
  · have := List.all_eq_true.1 h5 i hi
    simp only [ho] at this
    have := List.all_eq_true.1 this p hp
    simp only [Bool.or_eq_true, Bool.and_eq_true, inL_iff, nblt] at this
    exact this
  · have := List.all_eq_true.1 h6 i hi
    simp only [opA, hoi, mi, Bool.not_true, Bool.false_or, Bool.or_eq_true, nblt] at this
    rcases this with h' | h'
    · omega
    · have := List.all_eq_true.1 h' j hj
      simp only [hoj, mj, Bool.not_true, Bool.false_or, Bool.or_eq_true, Bool.not_eq_true'] at this
      rcases this with h'' | h''
      · rw [nblt.2 hlt] at h''
        cases h''
      · simp only [Bool.and_eq_true, nblt] at h''
        exact h''
  · have := List.all_eq_true.1 h7 i (List.mem_range.2 hi)
    simp only [Bool.or_eq_true, inL_iff] at this
    rcases this with (h' | h') | h'
    · exact absurd h' hd
    · exact absurd h' hs
    · exact List.all_eq_true.1 h' j hj

/-- What is looked at again behind the operation at a place of a segment. -/
def againG (ops : List Oper) (seg : List Nat) (k p : Nat) : List Nat :=
  let M := Rel.masks ops []
  let late := seg.filter fun i => opA ops isMem i && Nat.ble k (posOf seg i) && Nat.ble (posOf seg i) p
  seg.filter fun j => opA ops isMem j && Nat.blt (posOf seg j) k && late.all fun u => !(anc M u j)

section
variable {q : OrcQ} {ov : Orc} {ops : List Oper} {seg done : List Nat} {k n m : Nat} {ms : List MOp} {xs : List A} {Hs : Nat → Heap} {st : St} {e : Env}
theorem Seg.pos (h : Seg ops n seg k done) {i : Nat} (hi : i ∈ seg) : posOf seg i < seg.length ∧ seg[posOf seg i]? = some i := by
  obtain ⟨p, hp⟩ := List.mem_iff_getElem?.1 hi
  obtain ⟨j, h1, -, h3⟩ := h.at_ p (Rel.lt_of_get hp)
  rw [hp] at h1
  obtain rfl := Option.some.inj h1
  rw [h3]
  exact ⟨Rel.lt_of_get hp, hp⟩
theorem Seg.lt (h : Seg ops n seg k done) {i : Nat} (hi : i ∈ seg) : i < ops.length := by
  obtain ⟨j, h1, h2, -⟩ := h.at_ _ (h.pos hi).1
  rw [(h.pos hi).2] at h1
  obtain rfl := Option.some.inj h1
  exact h2
theorem Seg.inj (h : Seg ops n seg k done) {i j : Nat} (hi : i ∈ seg) (hj : j ∈ seg) (he : posOf seg i = posOf seg j) : i = j := by
  have h1 := (h.pos hi).2
  have h2 := (h.pos hj).2
  rw [he] at h1
  exact Option.some.inj (h1.symm.trans h2)
theorem gcanon_some (h : Seg ops n seg k done) (hc : cmpOrd n ops seg = some ms) {t w p : Nat} {x : A} (hw : Rel.writer ops 0 t = some w) (hs : w ∈ seg) (hp : posOf seg w < p) (hx : xs[posOf seg w]? = some x) : look (puts e (ms.take p) (xs.take p)) t = some x := by
  obtain ⟨hml, hmg⟩ := cmpOrd_get hc
  obtain ⟨-, o, ho, hd⟩ := Rel.writer_some hw
  have ho' : ops[w]? = some o := by simpa using ho
  obtain ⟨o1, m, ho1, hm, hcm⟩ := hmg _ _ (h.pos hs).2
  obtain rfl := Option.some.inj (ho'.symm.trans ho1)
  refine look_puts_at _ _ e (posOf seg w) m x (by rw [List.getElem?_take_of_lt hp]; exact hm) (by rw [List.getElem?_take_of_lt hp]; exact hx) (by rw [hcm.dst]; exact hd) fun i' m' hi' hd' => ?_
  have hlt : i' < p := by
    have := (List.getElem?_eq_some_iff.1 hi').1
    simp at this
    omega
  rw [List.getElem?_take_of_lt hlt] at hi'
  obtain ⟨j, hj1, hj2, hj3⟩ := h.at_ i' (by have := Rel.lt_of_get hi'; omega)
  obtain ⟨o2, m2, ho2, hm2, hcm2⟩ := hmg _ _ hj1
  obtain rfl := Option.some.inj (hi'.symm.trans hm2)
  rw [hcm2.dst] at hd'
  have := (h.dst j o2 t ho2 hd').2
  rw [hw] at this
  obtain rfl := Option.some.inj this
  exact hj3.symm
theorem gcanon_none (h : Seg ops n seg k done) (hc : cmpOrd n ops seg = some ms) {t p : Nat} (hw : ∀ w, Rel.writer ops 0 t = some w → w ∈ seg → p ≤ posOf seg w) : look (puts e (ms.take p) (xs.take p)) t = look e t := by
  obtain ⟨hml, hmg⟩ := cmpOrd_get hc
  refine look_puts_not _ _ e fun m' hm' hd' => ?_
  obtain ⟨i', hi'⟩ := List.mem_iff_getElem?.1 hm'
  have hlt : i' < p := by
    have := (List.getElem?_eq_some_iff.1 hi').1
    simp at this
    omega
  rw [List.getElem?_take_of_lt hlt] at hi'
  obtain ⟨j, hj1, hj2, hj3⟩ := h.at_ i' (by have := Rel.lt_of_get hi'; omega)
  obtain ⟨o2, m2, ho2, hm2, hcm2⟩ := hmg _ _ hj1
  obtain rfl := Option.some.inj (hi'.symm.trans hm2)
  rw [hcm2.dst] at hd'
  have := hw j (h.dst j o2 t ho2 hd').2 (List.mem_of_getElem? hj1)
  omega
end
/-- A segment under way. -/
structure DrawnG (T : Tb) (ops : List Oper) (seg : List Nat) (done : List Nat) (k : Nat) (xs : List A) (Hs : Nat → Heap) (a : Act) (c0 : Cfg) (listed : Array Bool) (a' : Act) (c : Cfg) (m : Nat) : Prop where
  to : To c0 c
  ok : Ok T.gl c
  size : a'.tmps.size = a.tmps.size
  defers : a'.defers = a.defers
  lsize : listed.size = ops.length
  closed : Rel.Closed ops listed
  heap : c.H = Hs m
  km : k ≤ m
  ml : m ≤ seg.length
  base : ∀ i, i ∈ done → listed.getD i true = true
  within : ∀ i, i < ops.length → listed.getD i true = true → i ∈ done ∨ i ∈ seg
  mem : ∀ (i : Nat) o, i ∈ seg → ops[i]? = some o → isMem o = true → k ≤ posOf seg i → (listed.getD i true = true ↔ posOf seg i < m)
  vals : ∀ (i : Nat) o d, i ∈ seg → ops[i]? = some o → listed.getD i true = true → o.dst = some d → ∃ x, xs[posOf seg i]? = some x ∧ R c.ρ c.own c.w x (a'.tmps.getD d undef)
  rest : ∀ t, (∀ (j : Nat) o, j ∈ seg → ops[j]? = some o → o.dst = some t → listed.getD j true = false) → a'.tmps.getD t undef = a.tmps.getD t undef

section
variable {q : OrcQ} {ov : Orc} {ops : List Oper} {seg done : List Nat} {k m : Nat} {ms : List MOp} {xs : List A} {Hs : Nat → Heap} {st : St} {a a' : Act} {c0 c : Cfg} {listed : Array Bool}
theorem DrawnG.step (hp : Seg ops a.tmps.size seg k done) (h : DrawnG T ops seg done k xs Hs a c0 listed a' c m) {i : Nat} {o : Oper} {c1 : Cfg} {m1 : Nat} {v : Value} (hi : i ∈ Region.ready .any ops.toArray listed) (hs : i ∈ seg) (ho : ops[i]? = some o) (hto : To c c1) (hok : Ok T.gl c1) (hH : c1.H = Hs m1)
    (hm1 : (m1 = m ∧ (isMem o = true → posOf seg i < k)) ∨ (m = posOf seg i ∧ m1 = m + 1 ∧ isMem o = true))
    (hv : ∃ x, xs[posOf seg i]? = some x ∧ R c1.ρ c1.own c1.w x v) :
    DrawnG T ops seg done k xs Hs a c0 (listed.setIfInBounds i true) (a'.put o.dst v) c1 m1 := by
  obtain ⟨hl, -⟩ := Rel.ready_spec.1 hi
  have hdl : ∀ d', o.dst = some d' → d' < a'.tmps.size := fun d' hd' => by rw [h.size]; exact (hp.dst i o d' ho hd').1
  have hmm : m ≤ m1 := by rcases hm1 with ⟨e, -⟩ | ⟨-, e, -⟩ <;> omega
  have hne : ∀ (j : Nat) (oj : Oper) (d : Tmp), ops[j]? = some oj → oj.dst = some d → j ≠ i → o.dst ≠ some d := fun j oj d hj hd hji he => by
    have h1 := (hp.dst j oj d hj hd).2
    rw [(hp.dst i o d ho he).2] at h1
    exact hji (Option.some.inj h1).symm
  refine ⟨h.to.trans hto, hok, by rw [Rel.size_put, h.size], by rw [Rel.defers_put, h.defers], by simpa using h.lsize, Rel.closed_set h.closed hi, hH, Nat.le_trans h.km hmm, ?_, fun j hj => Rel.getD_set_keeps (h.base j hj), fun j hj hlj => ?_, fun j oj sj hj mj hk => ?_, fun j oj d sj hj hlj hd => ?_, fun t ht => ?_⟩
  · rcases hm1 with ⟨e, -⟩ | ⟨e, e', -⟩
    · rw [e]; exact h.ml
    · have := (hp.pos hs).1
      omega
  · by_cases hji : j = i
    · subst hji
      exact .inr hs
    · exact h.within j hj (Rel.getD_set_other hlj hji)
  · by_cases hji : j = i
    · subst hji
      obtain rfl := Option.some.inj (ho.symm.trans hj)
      rcases hm1 with ⟨-, e⟩ | ⟨e, e', -⟩
      · have := e mj
        omega
      · exact ⟨fun _ => by omega, fun _ => by simp [Array.getD_eq_getD_getElem?, Rel.size_of_getD hl]⟩
    · have h1 := h.mem j oj sj hj mj hk
      have h2 : posOf seg j < m ↔ posOf seg j < m1 := by
        rcases hm1 with ⟨e, -⟩ | ⟨e, e', -⟩
        · rw [e]
        · constructor
          · omega
          · intro h3
            rcases Nat.lt_or_ge (posOf seg j) m with h4 | h4
            · exact h4
            · exact absurd (hp.inj sj hs (by omega)) hji
      rw [← h2, ← h1]
      exact ⟨fun h3 => Rel.getD_set_other h3 hji, Rel.getD_set_keeps⟩
  · by_cases hji : j = i
    · subst hji
      obtain rfl := Option.some.inj (ho.symm.trans hj)
      obtain ⟨x, h1, h2⟩ := hv
      refine ⟨x, h1, ?_⟩
      rw [hd, put_same (hdl d hd)]
      exact h2
    · obtain ⟨x, h1, h2⟩ := h.vals j oj d sj hj (Rel.getD_set_other hlj hji) hd
      refine ⟨x, h1, ?_⟩
      rw [put_other hdl (hne j oj d hj hd hji)]
      exact h2.to hto h.ok
  · rw [put_other hdl fun he => absurd rfl (Rel.getD_set_true (ht i o hs ho he)).1]
    exact h.rest t fun j oj sj hj hd => (Rel.getD_set_true (ht j oj sj hj hd)).2
theorem DrawnG.advance (hp : Seg ops a.tmps.size seg k done) (hc : cmpOrd a.tmps.size ops seg = some ms) (tr : Trace T q ov k ms st xs Hs) (h : DrawnG T ops seg done k xs Hs a c0 listed a' c m) {i : Nat} {o : Oper} (hi : seg[m]? = some i) (ho : ops[i]? = some o) (hme : isMem o = false) :
    DrawnG T ops seg done k xs Hs a c0 listed a' c (m + 1) := by
  have hml := Rel.lt_of_get hi
  have hs := List.mem_of_getElem? hi
  have hpi : posOf seg i = m := by
    obtain ⟨i', h1, -, h3⟩ := hp.at_ m hml
    rw [hi] at h1
    obtain rfl := Option.some.inj h1
    exact h3
  obtain ⟨o1, mm, ho1, hmm, hcm⟩ := (cmpOrd_get hc).2 m i hi
  obtain rfl := Option.some.inj (ho.symm.trans ho1)
  obtain ⟨x, hx, hst⟩ := tr.tail m mm h.km hmm
  have hpu := pure_of hme (hp.noal i o ho)
  have hH : Hs (m + 1) = Hs m := stepA_pure (by rw [hcm.op]; exact hpu) hst
  refine ⟨h.to, h.ok, h.size, h.defers, h.lsize, h.closed, by rw [hH]; exact h.heap, by have := h.km; omega, hml, h.base, h.within, fun j oj sj hj mj hk => (h.mem j oj sj hj mj hk).trans ?_, h.vals, h.rest⟩
  constructor
  · omega
  · intro h1
    rcases Nat.lt_or_ge (posOf seg j) m with h2 | h2
    · exact h2
    · obtain rfl := hp.inj sj hs (by omega)
      obtain rfl := Option.some.inj (ho.symm.trans hj)
      rw [hme] at mj
      cases mj
theorem DrawnG.upto (hp : Seg ops a.tmps.size seg k done) (hc : cmpOrd a.tmps.size ops seg = some ms) (tr : Trace T q ov k ms st xs Hs) : ∀ (d m : Nat), DrawnG T ops seg done k xs Hs a c0 listed a' c m → m + d ≤ seg.length →
    (∀ (p i : Nat) o, m ≤ p → p < m + d → seg[p]? = some i → ops[i]? = some o → isMem o = false) → DrawnG T ops seg done k xs Hs a c0 listed a' c (m + d)
  | 0, m, h, _, _ => h
  | d + 1, m, h, hl, hall => by
    obtain ⟨i, h1, h2, -⟩ := hp.at_ m (by omega)
    have ho : ops[i]? = some ops[i] := List.getElem?_eq_getElem h2
    have g1 := h.advance hp hc tr h1 ho (hall m i _ (Nat.le_refl _) (by omega) h1 ho)
    have g2 := DrawnG.upto hp hc tr d (m + 1) g1 (by omega) fun p j oj hp1 hp2 hj hoj => hall p j oj (by omega) (by omega) hj hoj
    rw [show m + (d + 1) = m + 1 + d by omega]
    exact g2
theorem DrawnG.slot (hp : Seg ops a.tmps.size seg k done) (hc : cmpOrd a.tmps.size ops seg = some ms) (h : DrawnG T ops seg done k xs Hs a c0 listed a' c m) (ok0 : Ok T.gl c0) (he : EnvR c0 st.env a) {i : Nat} {o : Oper} (hi : i ∈ Region.ready .any ops.toArray listed) (hs : i ∈ seg) (ho : ops[i]? = some o)
    {t : Tmp} (ht : t ∈ o.looksAt ops.toArray) {z : A} (hz : look (puts st.env (ms.take (posOf seg i)) (xs.take (posOf seg i))) t = some z) : R c.ρ c.own c.w z (a'.tmps.getD t undef) := by
  obtain ⟨hl, o1, ho1, hpr⟩ := Rel.ready_spec.1 hi
  obtain rfl := Option.some.inj (ho.symm.trans ho1)
  have old : (∀ w, Rel.writer ops 0 t = some w → w ∈ seg → posOf seg i ≤ posOf seg w) → (∀ (j : Nat) oj, j ∈ seg → ops[j]? = some oj → oj.dst = some t → listed.getD j true = false) → R c.ρ c.own c.w z (a'.tmps.getD t undef) := fun h1 h2 => by
    rw [gcanon_none hp hc h1] at hz
    rw [h.rest t h2]
    exact (he t z hz).to h.to ok0
  cases hw : Rel.writer ops 0 t with
  | none => exact old (fun w h1 => by rw [hw] at h1; cases h1) fun j oj sj hj hd => absurd hd (Rel.writer_none hw oj (List.mem_of_getElem? hj))
  | some w =>
    obtain ⟨-, ow, how, hdw⟩ := Rel.writer_some hw
    have how' : ops[w]? = some ow := by simpa using how
    have only : ∀ (j : Nat) oj, ops[j]? = some oj → oj.dst = some t → j = w := fun j oj hj hd => by
      have h1 := (hp.dst j oj t hj hd).2
      rw [hw] at h1
      exact (Option.some.inj h1).symm
    by_cases hws : w ∈ seg
    case neg =>
      exact old (fun w' h1 h2 => by rw [hw] at h1; obtain rfl := Option.some.inj h1; exact absurd h2 hws) fun j oj sj hj hd => by
        have := only j oj hj hd
        subst this
        exact absurd sj hws
    rcases hp.looks i o t w ho ht hw with hpw | han
    · have hlw := Rel.getD_mono (hpr w hpw)
      obtain ⟨x, h1, h2⟩ := h.vals w ow t hws how' hlw hdw
      have hlt : posOf seg w < posOf seg i := by
        rcases hp.preds i o w hs ho hpw with h3 | ⟨-, h3⟩
        · exact absurd h3 (hp.fresh w hws)
        · exact h3
      rw [gcanon_some hp hc hw hws hlt h1] at hz
      obtain rfl := Option.some.inj hz
      exact h2
    · have hpos := hp.ups w i hws hs han
      refine old (fun w' h1 _ => ?_) fun j oj sj hj hd => ?_
      · rw [hw] at h1
        obtain rfl := Option.some.inj h1
        omega
      · have := only j oj hj hd
        subst this
        cases hlj : listed.getD j true with
        | false => rfl
        | true =>
          have := Rel.anc_listed hp.ancs h.closed j ow how' (fun p hpm => h.closed j ow how' hlj p hpm) i han
          rw [hl] at this
          cases this
/-- An operation that may come up in any order gives, whenever it comes up, what it gives at the start. -/
theorem DrawnG.low (hp : Seg ops a.tmps.size seg k done) (hc : cmpOrd a.tmps.size ops seg = some ms) (tr : Trace T q ov k ms st xs Hs) (h : DrawnG T ops seg done k xs Hs a c0 listed a' c m)
    (hag : ∀ p, k ≤ p → p < ms.length → againAll T ⟨puts st.env (ms.take (p + 1)) (xs.take (p + 1)), Hs (p + 1)⟩ ((againG ops seg k p).filterMap fun j => ms[posOf seg j]?) = true)
    {i : Nat} {o : Oper} (hs : i ∈ seg) (ho : ops[i]? = some o) (hl : listed.getD i true = false) (hme : isMem o = true) (hk : posOf seg i < k) {mm : MOp} (hmm : ms[posOf seg i]? = some mm) {x : A} (hx : xs[posOf seg i]? = some x)
    (hst : stepF T q ⟨puts st.env (ms.take (posOf seg i)) (xs.take (posOf seg i)), st.H⟩ mm = some x) :
    ∀ p, k ≤ p → p ≤ m → stepF T q ⟨puts st.env (ms.take (posOf seg i)) (xs.take (posOf seg i)), Hs p⟩ mm = some x := by
  intro p
  induction p with
  | zero =>
    intro hkp _
    omega
  | succ p ih =>
    intro hkp hpm
    rcases Nat.eq_or_lt_of_le hkp with rfl | hlt
    · rw [tr.low _ (Nat.le_refl _)]
      exact hst
    have ih := ih (by omega) (by omega)
    have hml := h.ml
    obtain ⟨j, hj1, hj2, hj3⟩ := hp.at_ p (by omega)
    obtain ⟨oj, mj, hoj, hmj, hcj⟩ := (cmpOrd_get hc).2 p j hj1
    have hlen : ms.length = seg.length := (cmpOrd_get hc).1
    have hsj := List.mem_of_getElem? hj1
    obtain ⟨y, hy, hstj⟩ := tr.tail p mj (by omega) hmj
    by_cases hpu : pureOp mj.op = true
    · rw [stepA_pure hpu hstj]
      exact ih
    have hmemj : isMem oj = true := by
      rw [hcj.op] at hpu
      simp [isMem, hpu, hp.noal j oj hoj]
    have noanc : ∀ (v : Nat) ov', v ∈ seg → ops[v]? = some ov' → isMem ov' = true → k ≤ posOf seg v → posOf seg v < p + 1 → anc (Rel.masks ops []) v i = false := fun v ov' sv h1 h2 h3 h4 => by
      cases hh : anc (Rel.masks ops []) v i with
      | false => rfl
      | true =>
        have hlv : listed.getD v true = true := (h.mem v ov' sv h1 h2 h3).2 (by omega)
        have := Rel.anc_listed hp.ancs h.closed v ov' h1 (fun q hq => h.closed v ov' h1 hlv q hq) i hh
        rw [hl] at this
        cases this
    have hagn : agn ops o = true := by
      rcases hp.mem j i oj o hsj hs hoj ho hmemj hme (by omega) (by omega) with h1 | ⟨-, h1⟩
      · rw [noanc j oj hsj hoj hmemj (by omega) (by omega)] at h1
        cases h1
      · exact h1
    have hmem : mm ∈ (againG ops seg k p).filterMap fun j => ms[posOf seg j]? := by
      refine List.mem_filterMap.2 ⟨i, ?_, hmm⟩
      unfold againG
      refine List.mem_filter.2 ⟨hs, ?_⟩
      simp only [opA, ho, hme, Bool.true_and, Bool.and_eq_true, nblt]
      refine ⟨hk, List.all_eq_true.2 fun v hv => ?_⟩
      obtain ⟨hv1, hv2⟩ := List.mem_filter.1 hv
      simp only [Bool.and_eq_true, nble] at hv2
      have hov : ops[v]? = some (ops[v]'(hp.lt hv1)) := List.getElem?_eq_getElem (hp.lt hv1)
      rw [noanc v _ hv1 hov (by simpa [opA, hov] using hv2.1.1) hv2.1.2 (by omega)]
      rfl
    obtain ⟨o1, mm1, ho1, hmm1, hcm⟩ := (cmpOrd_get hc).2 _ _ (hp.pos hs).2
    obtain rfl := Option.some.inj (ho.symm.trans ho1)
    obtain rfl := Option.some.inj (hmm.symm.trans hmm1)
    have hslot : ∀ t ∈ o.looksAt ops.toArray, look (puts st.env (ms.take (p + 1)) (xs.take (p + 1))) t = look (puts st.env (ms.take (posOf seg i)) (xs.take (posOf seg i))) t := fun t ht => by
      cases hwr : Rel.writer ops 0 t with
      | none => rw [gcanon_none hp hc (fun w hw => by rw [hwr] at hw; cases hw), gcanon_none hp hc (fun w hw => by rw [hwr] at hw; cases hw)]
      | some w =>
        by_cases hws : w ∈ seg
        · have hpw : w ∈ Rel.preds o := by
            unfold agn at hagn
            have := List.all_eq_true.1 hagn t ht
            simp only [hwr] at this
            simpa using this
          have hlt' : posOf seg w < posOf seg i := by
            rcases hp.preds i o w hs ho hpw with h3 | ⟨-, h3⟩
            · exact absurd h3 (hp.fresh w hws)
            · exact h3
          obtain ⟨z, hz⟩ : ∃ z, xs[posOf seg w]? = some z := ⟨_, List.getElem?_eq_getElem (by rw [tr.len, hlen]; exact (hp.pos hws).1)⟩
          rw [gcanon_some hp hc hwr hws (by omega) hz, gcanon_some hp hc hwr hws hlt' hz]
        · have hno : ∀ p', ∀ w', Rel.writer ops 0 t = some w' → w' ∈ seg → p' ≤ posOf seg w' := fun p' w' h1 h2 => by
            rw [hwr] at h1
            obtain rfl := Option.some.inj h1
            exact absurd h2 hws
          rw [gcanon_none hp hc (hno _), gcanon_none hp hc (hno _)]
    refine again_ok hst (againAll_get (hag p (by omega) (by omega)) hmem) (fun z hz => ?_) (wants_congr fun t b hg => ?_) (fun d hd => ?_)
    · cases z with
      | tmp t =>
        refine hslot t ?_
        unfold Oper.looksAt
        rw [hcm.op] at hz
        exact List.mem_append_left _ (List.mem_filterMap.2 ⟨_, hz, rfl⟩)
      | _ => rfl
    · refine hslot t ?_
      unfold Oper.looksAt
      rcases hcm.guard with ⟨-, h2⟩ | ⟨g, b', t', h1, h3, h2⟩
      · rw [hg] at h2; cases h2
      · rw [hg] at h2
        simp only [Option.some.injEq, Prod.mk.injEq] at h2
        obtain ⟨rfl, rfl⟩ := h2
        refine List.mem_append_right _ ?_
        rw [h1]
        have : (ops.toArray[g]?).bind (·.dst) = some t := by simpa using h3
        simp only [this, Option.toList_some, List.mem_singleton]
    · have hod : o.dst = some d := by rw [← hcm.dst]; exact hd
      exact gcanon_some hp hc (hp.dst i o d ho hod).2 hs (by omega) hx
end
end Go.Proofs.YtnhknhniemfnjaaGreatDoor.Ev
namespace Go.Proofs.YtnhknhniemfnjaaGreatDoor.Ev
open Go Go.RowKit
variable {P : Program} {T : Tb}
section
variable {q : OrcQ} {ov : Orc} {r : Option Nat} {n nt : Nat} {ops : List Oper}
/-- A segment, and what comes behind it. -/
theorem seg_ok (hT : TOk P T) (hQ : QOk T P q) (hO : OOk T P ov) {seg done : List Nat} {k : Nat} {ms : List MOp} {st : St} {a : Act} {c0 : Cfg} {Q : Exit → Act → World → Prop} (hc : cmpOrd a.tmps.size ops seg = some ms) (hp : Seg ops a.tmps.size seg k done)
    {xs : List A} {Hs : Nat → Heap} (tr : Trace T q ov k ms st xs Hs) (hag : ∀ p, k ≤ p → p < ms.length → againAll T ⟨puts st.env (ms.take (p + 1)) (xs.take (p + 1)), Hs (p + 1)⟩ ((againG ops seg k p).filterMap fun j => ms[posOf seg j]?) = true)
    (ok0 : Ok T.gl c0) (he0 : EnvR c0 st.env a)
    (hK : ∀ (fuel : Nat) (listed : Array Bool) (a' : Act) (c' : Cfg), listed.toList.count false ≤ fuel → listed.size = ops.length → Rel.Closed ops listed → (∀ i, i < ops.length → (listed.getD i true = true ↔ i ∈ done ∨ i ∈ seg)) → c'.H = Hs ms.length → To c0 c' → Ok T.gl c' →
      EnvR c' (puts st.env ms xs) a' → a'.tmps.size = a.tmps.size → a'.defers = a.defers → wpAnyIn (Wd r) n P .any ops.toArray Q fuel listed a' c'.w) :
    ∀ (fuel : Nat) (listed : Array Bool) (a' : Act) (c1 : Cfg) (m : Nat), listed.toList.count false ≤ fuel → DrawnG T ops seg done k xs Hs a c0 listed a' c1 m → wpAnyIn (Wd r) n P .any ops.toArray Q fuel listed a' c1.w := by
  obtain ⟨hml, hmg⟩ := cmpOrd_get hc
  have fin : ∀ (fuel : Nat) (listed : Array Bool) (a' : Act) (c1 : Cfg) (m : Nat), listed.toList.count false ≤ fuel → DrawnG T ops seg done k xs Hs a c0 listed a' c1 m → (∀ i, i ∈ seg → listed.getD i true = true) → wpAnyIn (Wd r) n P .any ops.toArray Q fuel listed a' c1.w := by
    intro fuel listed a' c1 m hcnt D hall
    have hmle := D.ml
    have g2 := D.upto hp hc tr (seg.length - m) m (by omega) fun p i o hp1 hp2 hi ho => by
      cases hme : isMem o with
      | false => rfl
      | true =>
        exfalso
        obtain ⟨i', h1, -, h3⟩ := hp.at_ p (by omega)
        rw [hi] at h1
        obtain rfl := Option.some.inj h1
        have := (D.mem i o (List.mem_of_getElem? hi) ho hme (by have := D.km; omega)).1 (hall i (List.mem_of_getElem? hi))
        omega
    rw [show m + (seg.length - m) = seg.length by omega] at g2
    refine hK fuel listed a' c1 hcnt g2.lsize g2.closed (fun i hi => ⟨g2.within i hi, fun h => h.elim (g2.base i) (hall i)⟩) (by rw [g2.heap, hml]) g2.to g2.ok (fun t z hz => ?_) g2.size g2.defers
    have e1 : ms = ms.take seg.length := by rw [List.take_of_length_le (by omega)]
    have e3 : xs = xs.take seg.length := by rw [List.take_of_length_le (by rw [tr.len]; omega)]
    rw [e1, e3] at hz
    have old : (∀ w, Rel.writer ops 0 t = some w → w ∈ seg → False) → R c1.ρ c1.own c1.w z (a'.tmps.getD t undef) := fun hno => by
      rw [gcanon_none hp hc (fun w h1 h2 => (hno w h1 h2).elim)] at hz
      rw [g2.rest t fun j oj sj hj hd => (hno j (hp.dst j oj t hj hd).2 sj).elim]
      exact (he0 t z hz).to g2.to ok0
    cases hw : Rel.writer ops 0 t with
    | none => exact old fun w h1 _ => by rw [hw] at h1; cases h1
    | some w =>
      by_cases hws : w ∈ seg
      · obtain ⟨-, ow, how, hdw⟩ := Rel.writer_some hw
        have how' : ops[w]? = some ow := by simpa using how
        obtain ⟨x, h1, h2⟩ := g2.vals w ow t hws how' (hall w hws) hdw
        rw [gcanon_some hp hc hw hws (hp.pos hws).1 h1] at hz
        obtain rfl := Option.some.inj hz
        exact h2
      · exact old fun w' h1 h2 => by
          rw [hw] at h1
          obtain rfl := Option.some.inj h1
          exact hws h2
  intro fuel
  induction fuel with
  | zero =>
    intro listed a' c1 m hcnt D
    exact fin 0 listed a' c1 m hcnt D fun i _ => Rel.ready_nil D.lsize hp.ancs (Rel.count_zero hcnt) i
  | succ fuel ih =>
    intro listed a' c1 m hcnt D
    by_cases hall : ∀ i, i ∈ seg → listed.getD i true = true
    · exact fin _ listed a' c1 m hcnt D hall
    refine ⟨fun hr => absurd (fun i _ => Rel.ready_nil D.lsize hp.ancs hr i) hall, fun i hi => ?_⟩
    obtain ⟨hl, o, ho, hpr⟩ := Rel.ready_spec.1 hi
    have hcs := Rel.count_set hl
    have hil := Rel.lt_of_get ho
    have anl : ∀ j, anc (Rel.masks ops []) i j = true → listed.getD j true = true := Rel.anc_listed hp.ancs D.closed i o ho fun p hpm => Rel.getD_mono (hpr p hpm)
    have hs : i ∈ seg := by
      apply Classical.byContradiction
      intro hns
      refine hall fun j hj => anl j (hp.gate i hil (fun hd => ?_) hns j hj)
      have := D.base i hd
      rw [hl] at this
      cases this
    obtain ⟨hpl, hpo⟩ := hp.pos hs
    obtain ⟨o1, mm, ho1, hmm, hcm⟩ := hmg _ _ hpo
    obtain rfl := Option.some.inj (ho.symm.trans ho1)
    have hal := hp.noal i o ho
    by_cases hfree : pureOp o.op = true ∨ posOf seg i < k
    · have hslot := fun t (ht : t ∈ o.looksAt ops.toArray) z hz => D.slot hp hc ok0 he0 hi hs ho ht (z := z) hz
      have hx : ∃ x, xs[posOf seg i]? = some x ∧ stepF T q ⟨puts st.env (ms.take (posOf seg i)) (xs.take (posOf seg i)), c1.H⟩ mm = some x := by
        by_cases hpu : pureOp o.op = true
        · have hpu' : pureOp mm.op = true := by rw [hcm.op]; exact hpu
          rcases Nat.lt_or_ge (posOf seg i) k with hk | hk
          · obtain ⟨x, h1, h2⟩ := tr.free _ _ hk hmm
            refine ⟨x, h1, ?_⟩
            unfold stepF at h2 ⊢
            simp only [pure_free hpu'] at h2 ⊢
            rw [pure_heap hpu' c1.H st.H]
            exact h2
          · obtain ⟨x, h1, h2⟩ := tr.tail _ _ hk hmm
            refine ⟨x, h1, ?_⟩
            unfold stepA at h2
            unfold stepF
            simp only [pure_free hpu', pure_any hpu'] at h2 ⊢
            rw [pure_heap hpu' c1.H (Hs (posOf seg i))]
            cases hw : wants (puts st.env (ms.take (posOf seg i)) (xs.take (posOf seg i))) mm.guard with
            | none => simp [hw] at h2
            | some b =>
              cases b with
              | false =>
                simp only [hw, Option.some.injEq, Prod.mk.injEq] at h2
                simp only [h2.1]
              | true =>
                simp only [hw] at h2 ⊢
                cases hq : quietOp T (puts st.env (ms.take (posOf seg i)) (xs.take (posOf seg i))) (Hs (posOf seg i)) mm.op with
                | none => simp [hq] at h2
                | some y =>
                  simp only [hq, Option.map_some, Option.some.injEq, Prod.mk.injEq] at h2
                  rw [h2.1]
        · have hk : posOf seg i < k := hfree.resolve_left hpu
          have hme : isMem o = true := by simp [isMem, hpu, hal]
          obtain ⟨x, h1, h2⟩ := tr.free _ _ hk hmm
          refine ⟨x, h1, ?_⟩
          rw [D.heap]
          exact D.low hp hc tr hag hs ho hl hme hk hmm h1 h2 m D.km (Nat.le_refl _)
      obtain ⟨x, hx, hst⟩ := hx
      refine Rel.wpOpIn_ok (G := Grow) (R := fun v w' => R c1.ρ c1.own w' x v) (Wd.fn r) (Wd.depth r) ho (Rel.Grow.refl _) ?_ fun v w'' hG hR => ?_
      · unfold stepF at hst
        cases hwt : wants (puts st.env (ms.take (posOf seg i)) (xs.take (posOf seg i))) mm.guard with
        | none => simp [hwt] at hst
        | some b =>
          have hwant := wants_ok (c := c1) (a := a') hcm (fun t z hgt hz => by
            obtain ⟨g, b', g1, ht'⟩ := hgt
            refine hslot t ?_ z hz
            unfold Oper.looksAt
            rw [g1]
            refine List.mem_append_right _ ?_
            have : (ops.toArray[g]?).bind (·.dst) = some t := by simpa using ht'
            simp only [this, Option.toList_some, List.mem_singleton]) hwt
          rw [hwant]
          cases b with
          | false =>
            simp only [hwt, Option.some.injEq] at hst
            subst hst
            simp only [Bool.false_eq_true, if_false, R]
          | true =>
            simp only [hwt] at hst
            simp only [if_true]
            refine free_ok hT hQ (c := c1) D.ok (st := ⟨puts st.env (ms.take (posOf seg i)) (xs.take (posOf seg i)), c1.H⟩) rfl ?_ hcm.defer (by rw [← hcm.op]; exact hst)
            intro t z hz
            rw [look_keepE] at hz
            split at hz
            · rename_i hts
              refine hslot t ?_ z hz
              unfold Oper.looksAt
              exact List.mem_append_left _ hts
            · cases hz
      · obtain ⟨ht2, ok2⟩ := D.ok.grow hG
        refine ih _ _ ⟨c1.ρ, c1.own, c1.H, w''⟩ m (by omega) (D.step hp hi hs ho ht2 ok2 D.heap (.inl ⟨rfl, fun hme => ?_⟩) ⟨x, hx, hR⟩)
        rcases hfree with h1 | h1
        · simp [isMem, h1] at hme
        · exact h1
    · have hpu : ¬ pureOp o.op = true := fun h1 => hfree (.inl h1)
      have hk : k ≤ posOf seg i := by
        rcases Nat.lt_or_ge (posOf seg i) k with h1 | h1
        · exact absurd (.inr h1) hfree
        · exact h1
      have hme : isMem o = true := by simp [isMem, hpu, hal]
      have hmp : m ≤ posOf seg i := by
        rcases Nat.lt_or_ge (posOf seg i) m with h1 | h1
        · have := (D.mem i o hs ho hme hk).2 h1
          rw [hl] at this
          cases this
        · exact h1
      have D2 := D.upto hp hc tr (posOf seg i - m) m (by omega) fun p j oj hp1 hp2 hj hoj => by
        obtain ⟨j', h1, -, h3⟩ := hp.at_ p (by omega)
        rw [hj] at h1
        obtain rfl := Option.some.inj h1
        have hkm := D.km
        have hsj := List.mem_of_getElem? hj
        cases mj : isMem oj with
        | false => rfl
        | true =>
          exfalso
          have h4 := anl j ((hp.mem i j o oj hs hsj ho hoj hme mj hk (by omega)).resolve_right fun h => by omega)
          have := (D.mem j oj hsj hoj mj (by omega)).1 h4
          omega
      rw [show m + (posOf seg i - m) = posOf seg i by omega] at D2
      have hslot := fun t (ht : t ∈ o.looksAt ops.toArray) z hz => D2.slot hp hc ok0 he0 hi hs ho ht (z := z) hz
      obtain ⟨x, hx, hst⟩ := tr.tail _ _ hk hmm
      unfold stepA at hst
      cases hwt : wants (puts st.env (ms.take (posOf seg i)) (xs.take (posOf seg i))) mm.guard with
      | none => simp [hwt] at hst
      | some b =>
        have hwant := wants_ok (c := c1) (a := a') hcm (fun t z hgt hz => by
          obtain ⟨g, b', g1, ht'⟩ := hgt
          refine hslot t ?_ z hz
          unfold Oper.looksAt
          rw [g1]
          refine List.mem_append_right _ ?_
          have : (ops.toArray[g]?).bind (·.dst) = some t := by simpa using ht'
          simp only [this, Option.toList_some, List.mem_singleton]) hwt
        unfold wpOpIn
        have ho' : ops.toArray[i]? = some o := by simpa using ho
        simp only [ho', hwant]
        cases b with
        | false =>
          simp only [hwt, Option.some.injEq, Prod.mk.injEq] at hst
          simp only [Bool.false_eq_true, if_false]
          exact ⟨fun f _ => Wd.fn r f, ih _ _ c1 (posOf seg i + 1) (by omega) (D2.step hp hi hs ho (To.refl _) D2.ok (by rw [D2.heap, hst.2]) (.inr ⟨rfl, rfl, hme⟩) ⟨x, hx, by rw [← hst.1, R]⟩)⟩
        | true =>
          simp only [hwt] at hst
          simp only [if_true]
          rw [any_congr (agree_keep _ _), hcm.op] at hst
          refine any_ok hT hO D2.ok (st := ⟨_, _⟩) D2.heap (fun t z hz => ?_) hcm.defer hst fun y c3 k1 k2 k3 k4 => ih _ _ c3 (posOf seg i + 1) (by omega) (D2.step hp hi hs ho k2 k3 k1 (.inr ⟨rfl, rfl, hme⟩) ⟨x, hx, k4⟩)
          simp only at hz
          rw [look_keepE] at hz
          split at hz
          · rename_i hts
            refine hslot t ?_ z hz
            unfold Oper.looksAt
            exact List.mem_append_left _ hts
          · cases hz

/-- What these operations write. -/
def dstsOf (ops : List Oper) (l : List Nat) : List Nat := l.filterMap fun i => (ops[i]?).bind (·.dst)
/-- A region, segment by segment. -/
def segsM (n : Nat) (ops : List Oper) (keep : List Nat) : List (List Nat × Nat) → List Nat → M
  | [], _ => .skip
  | (seg, k) :: l, done => match cmpOrd n ops seg with
    | some ms => .seq (.seq (.reg (keep ++ dstsOf ops done) (ms.take k) k) (lateM (fun p => (againG ops seg k p).filterMap fun j => ms[posOf seg j]?) k (ms.drop k))) (segsM n ops keep l (done ++ seg))
    | none => .bad
def fineSegs (ops : List Oper) (M : List Nat) : List (List Nat × Nat) → List Nat → Bool
  | [], done => (List.range ops.length).all (inL done)
  | (seg, k) :: l, done => fineG ops M seg k done && fineSegs ops M l (done ++ seg)
theorem segs_run (hT : TOk P T) (hQ : QOk T P q) (hO : OOk T P ov) {keep : List Nat} {Q : Exit → Act → World → Prop} (hr : fineR ops nt (Rel.masks ops []) = true) : ∀ (segs : List (List Nat × Nat)) (done : List Nat) (N : Nat) (st : St) (ex : Ex) (st' : St),
    fineSegs ops (Rel.masks ops []) segs done = true → runM T q ov N (segsM nt ops keep segs done) st = some (ex, st') → ex = .go ∧ ∀ (listed : Array Bool) (a : Act) (c : Cfg), listed.size = ops.length → Rel.Closed ops listed → (∀ i, i < ops.length → (listed.getD i true = true ↔ i ∈ done)) →
      c.H = st.H → Ok T.gl c → EnvR c st.env a → a.tmps.size = nt → (∀ a' c', c'.H = st'.H → To c c' → Ok T.gl c' → EnvR c' st'.env a' → a'.tmps.size = nt → a'.defers = a.defers → Q .normal a' c'.w) →
      ∀ fuel, listed.toList.count false ≤ fuel → wpAnyIn (Wd r) n P .any ops.toArray Q fuel listed a c.w := by
  intro segs
  induction segs with
  | nil =>
    intro done N st ex st' hf h
    cases N with
    | zero => simp [segsM, runM] at h
    | succ N =>
      simp only [segsM, runM, Option.some.injEq, Prod.mk.injEq] at h
      obtain ⟨rfl, rfl⟩ := h
      refine ⟨rfl, fun listed a c hsz hcl hd hH ok he hs hQ' fuel hcnt => ?_⟩
      have hq := hQ' a c hH (To.refl _) ok he hs rfl
      have hall : ∀ i o, ops[i]? = some o → listed.getD i true = true := fun i o ho => (hd i (Rel.lt_of_get ho)).2 (inL_iff.1 (List.all_eq_true.1 hf i (List.mem_range.2 (Rel.lt_of_get ho))))
      cases fuel with
      | zero => exact ⟨Rel.count_zero hcnt, hq⟩
      | succ fuel =>
        refine ⟨fun _ => hq, fun i hi => ?_⟩
        obtain ⟨hl, o, ho, -⟩ := Rel.ready_spec.1 hi
        rw [hall i o ho] at hl
        cases hl
  | cons sk l ih =>
    obtain ⟨seg, k⟩ := sk
    intro done N st ex st' hf h
    unfold segsM at h
    simp only [fineSegs, Bool.and_eq_true] at hf
    obtain ⟨hf1, hf2⟩ := hf
    have hp := seg_of hr hf1
    cases hc : cmpOrd nt ops seg with
    | none =>
      simp only [hc] at h
      cases N <;> simp [runM] at h
    | some ms =>
      simp only [hc] at h
      cases N with
      | zero => simp [runM] at h
      | succ N =>
        simp only [runM] at h
        cases h1 : runM T q ov N (.seq (.reg (keep ++ dstsOf ops done) (ms.take k) k) (lateM (fun p => (againG ops seg k p).filterMap fun j => ms[posOf seg j]?) k (ms.drop k))) st with
        | none => simp [h1] at h
        | some es =>
          obtain ⟨e1, s1⟩ := es
          cases N with
          | zero => simp [runM] at h1
          | succ N =>
            have h1' := h1
            simp only [runM] at h1
            cases h2 : runM T q ov N (.reg (keep ++ dstsOf ops done) (ms.take k) k) st with
            | none => simp [h2] at h1
            | some es2 =>
              obtain ⟨e2, s2⟩ := es2
              cases N with
              | zero => simp [runM] at h2
              | succ N =>
                have h2' := h2
                simp only [runM] at h2
                cases h3 : runOps T q ov k (ms.take k) ⟨keepE st.env (keep ++ dstsOf ops done), st.H⟩ with
                | none => simp [h3] at h2
                | some s3 =>
                  simp only [h3, Option.some.injEq, Prod.mk.injEq] at h2
                  obtain ⟨rfl, rfl⟩ := h2
                  simp only [h2'] at h1
                  have hk : k ≤ ms.length := by rw [(cmpOrd_get hc).1]; exact hp.kle
                  obtain ⟨rfl, xs, Hs, tr, hst, hag⟩ := trace_late hk h3 h1
                  simp only [h1'] at h
                  obtain ⟨hex, rest⟩ := ih (done ++ seg) _ _ _ _ hf2 h
                  refine ⟨hex, fun listed a c hsz hcl hd hH ok he hs hQ' fuel hcnt => ?_⟩
                  subst hs
                  refine seg_ok (r := r) (n := n) (Q := Q) hT hQ hO hc hp tr hag ok (he.keep _) (fun fuel' listed' a' c' g1 g2 g3 g4 g5 g6 g7 g8 g9 g10 => ?_) fuel listed a c k hcnt ⟨To.refl _, ok, rfl, rfl, hsz, hcl, by rw [hH, tr.low k (Nat.le_refl _)], Nat.le_refl _, hp.kle, fun i hi => ?_, fun i hi hl => .inl ((hd i hi).1 hl), fun i o hsi ho hm hki => ?_, fun i o d hsi ho hl hd' => ?_, fun t _ => rfl⟩
                  · refine rest listed' a' c' g2 g3 (fun i hi => by rw [g4 i hi, List.mem_append]) (by rw [g5, hst]) g7 (by rw [hst]; exact g8) g9 (fun a2 c2 k1 k2 k3 k4 k5 k6 => hQ' a2 c2 k1 (g6.trans k2) k3 k4 k5 (k6.trans g10)) fuel' g1
                  · rcases Nat.lt_or_ge i ops.length with hil | hil
                    · exact (hd i hil).2 hi
                    · simp [Array.getD_eq_getD_getElem?, Array.getElem?_eq_none (show listed.size ≤ i by omega)]
                  · have hl := hp.lt hsi
                    exact ⟨fun hl' => absurd ((hd i hl).1 hl') (hp.fresh i hsi), fun h => by omega⟩
                  · exact absurd ((hd i (hp.lt hsi)).1 hl) (hp.fresh i hsi)
theorem segs_ok (hm : P.follows .mixedOrders = true) (hT : TOk P T) (hQ : QOk T P q) (hO : OOk T P ov) {id N : Nat} {keep : List Nat} {segs : List (List Nat × Nat)} {st st' : St} {ex : Ex} {a : Act} {c : Cfg} {Q : Exit → Act → World → Prop} (hr : fineR ops nt (Rel.masks ops []) = true)
    (hf : fineSegs ops (Rel.masks ops []) segs [] = true) (h : runM T q ov N (segsM nt ops keep segs []) st = some (ex, st')) (hH : c.H = st.H) (ok : Ok T.gl c) (he : EnvR c st.env a) (hs : a.tmps.size = nt)
    (hK : ∀ a' c', c'.H = st'.H → To c c' → Ok T.gl c' → EnvR c' st'.env a' → a'.tmps.size = nt → a'.defers = a.defers → Q .normal a' c'.w) : ex = .go ∧ (Code.region id ops.toArray true).wpIn (Wd r) n P Q a c.w := by
  obtain ⟨h1, h2⟩ := segs_run (r := r) (n := n) (Q := Q) hT hQ hO hr segs [] N st ex st' hf h
  refine ⟨h1, ?_⟩
  obtain ⟨hto0, ok0⟩ := ok.grow (Rel.Grow.drew c.w)
  refine wpIn_region_any hm ?_
  have no : ∀ i, i < ops.length → ((Array.replicate ops.length false).getD i true = true ↔ i ∈ ([] : List Nat)) := fun i hi => by simp [hi]
  have := h2 (Array.replicate ops.length false) a ⟨c.ρ, c.own, c.H, c.w.drew⟩ (by simp) (fun i o ho hl => by
    have := (no i (Rel.lt_of_get ho)).1 hl
    cases this) no hH ok0 (he.to hto0 ok) hs (fun a' c' k1 k2 k3 k4 k5 k6 => hK a' c' k1 (hto0.trans k2) k3 k4 k5 k6) _ (Rel.count_start ops.length)
  simpa using this
end
end Go.Proofs.YtnhknhniemfnjaaGreatDoor.Ev
namespace Go.Proofs.YtnhknhniemfnjaaGreatDoor.Ev
open Go Go.RowKit
/-- Does it grow or fill a slice? -/
def isApp (o : Oper) : Bool := match o.op with
  | .call c => match c.callee with
    | .builtin .append | .builtin .copy => true
    | _ => false
  | _ => false
/-- A literal that an append grows. -/
def grown (ops : List Oper) (o : Oper) : Bool := match o.op, o.dst with
  | .buildSlice _ _ _, some d => ops.any fun u => match u.op with
    | .call c => match c.callee, c.args.toList with
      | .builtin .append, .tmp t :: _ => Nat.beq t d
      | _, _ => false
    | _ => false
  | _, _ => false
/-- The order of a segment. (A hint.) -/
def planSeg (ps : List Nat) (ops : List Oper) (M : List Nat) (seg : List Nat) : List Nat × Nat :=
  let fixed := seg.filter fun i => opA ops isMem i && !(opA ops (mayFree ps) i && !(opA ops (grown ops) i))
  let late := seg.filter fun i => fixed.any fun j => Nat.beq i j || anc M i j
  let fr := seg.filter fun i => !(inL late i)
  (fr ++ late, fr.length)
/-- The segments: where the guard changes, and all that comes later hangs on all that comes earlier. (A hint.) -/
def segsOf (ps : List Nat) (ops : List Oper) : List (List Nat × Nat) :=
  let M := Rel.masks ops []
  let cs := (List.range ops.length).filter fun s => Nat.blt 0 s && !((ops[s]?).map (·.guard) == (ops[s - 1]?).map (·.guard)) && (List.range ops.length).all fun i => Nat.blt i s || (List.range s).all fun j => anc M i j
  (cs ++ [ops.length]).zipWith (fun c s => planSeg ps ops M ((List.range c).drop s)) (0 :: cs)
def wantSegs (ps : List Nat) (ops : List Oper) (n : Nat) : Bool :=
  ((planOf ps ops).1.take (planOf ps ops).2).any (fun i => opA ops (fun o => isApp o || grown ops o) i) && fineR ops n (Rel.masks ops []) && fineSegs ops (Rel.masks ops []) (segsOf ps ops) []
end Go.Proofs.YtnhknhniemfnjaaGreatDoor.Ev
