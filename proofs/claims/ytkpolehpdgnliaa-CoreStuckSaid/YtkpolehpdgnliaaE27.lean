/- A drawn region under way: what stands when some operations have come up and others not. -/
import Derived.Test.YtkpolehpdgnliaaE26
set_option linter.unusedSimpArgs false
set_option linter.unusedVariables false
namespace Go.Proofs.Ytkpolehpdgnliaa.Ev
open Go Go.RowKit
variable {P : Program} {T : Tb}

structure Drawn (T : Tb) (ops : List Oper) (ord : List Nat) (k : Nat) (xs : List A) (Hs : Nat → Heap) (a : Act) (c0 : Cfg) (listed : Array Bool) (a' : Act) (c : Cfg) (m : Nat) : Prop where
  to : To c0 c
  ok : Ok T.gl c
  size : a'.tmps.size = a.tmps.size
  defers : a'.defers = a.defers
  lsize : listed.size = ops.length
  closed : Rel.Closed ops listed
  heap : c.H = Hs m
  km : k ≤ m
  ml : m ≤ ops.length
  mem : ∀ (i : Nat) o, ops[i]? = some o → isMem o = true → k ≤ posOf ord i → (listed.getD i true = true ↔ posOf ord i < m)
  al : ∀ (i : Nat) o, ops[i]? = some o → isAl o = true → posOf ord i < m → listed.getD i true = true
  vals : ∀ (i : Nat) o d, ops[i]? = some o → listed.getD i true = true → o.dst = some d → (isAl o = true → posOf ord i < m) → ∃ x, xs[posOf ord i]? = some x ∧ R c.ρ c.own c.w x (a'.tmps.getD d undef)
  early : ∀ (i : Nat) o d t, ops[i]? = some o → listed.getD i true = true → o.dst = some d → isAl o = true → o.op = .alloc t → m ≤ posOf ord i → ∃ g, a'.tmps.getD d undef = .pointer (some ⟨g, 0, none⟩) ∧ Early T c0.w.heap.size c t g
  apart : ∀ (i j : Nat) o o' d d', ops[i]? = some o → ops[j]? = some o' → listed.getD i true = true → listed.getD j true = true → o.dst = some d → o'.dst = some d' → isAl o = true → isAl o' = true → m ≤ posOf ord i → m ≤ posOf ord j → a'.tmps.getD d undef = a'.tmps.getD d' undef → i = j
  rest : ∀ t, (∀ (j : Nat) o, ops[j]? = some o → o.dst = some t → listed.getD j true = false) → a'.tmps.getD t undef = a.tmps.getD t undef

theorem isAl_spec {o : Oper} (h : isAl o = true) : ∃ t d, o.op = .alloc t ∧ o.guard = none ∧ o.dst = some d := by
  unfold isAl at h
  split at h
  · rename_i t d h1 h2 h3
    exact ⟨t, d, h1, h2, h3⟩
  · cases h
theorem al_not_mem {o : Oper} (h : isAl o = true) : isMem o = false := by simp [isMem, h]
theorem al_not_pure {o : Oper} (h : isAl o = true) : pureOp o.op = false := by
  obtain ⟨t, d, h1, -, -⟩ := isAl_spec h
  simp [h1, pureOp]
theorem pure_of {o : Oper} (h : isMem o = false) (h' : isAl o = false) : pureOp o.op = true := by simpa [isMem, h'] using h

section
variable {q : OrcQ} {ov : Orc} {ops : List Oper} {ord : List Nat} {k nt m : Nat} {ms : List MOp} {xs : List A} {Hs : Nat → Heap} {st : St} {a a' : Act} {c0 c : Cfg} {listed : Array Bool}

theorem put_same {d : Tmp} {v : Value} (hd : d < a.tmps.size) : (a.put (some d) v).tmps.getD d undef = v := by rw [Rel.getD_put hd, if_pos rfl]
theorem put_other {d : Option Tmp} {v : Value} {t : Tmp} (hd : ∀ d', d = some d' → d' < a.tmps.size) (ht : d ≠ some t) : (a.put d v).tmps.getD t undef = a.tmps.getD t undef := by
  cases d with
  | none => rfl
  | some d =>
    rw [Rel.getD_put (hd d rfl), if_neg]
    rintro rfl
    exact ht rfl

/-- One operation has come up. -/
theorem Drawn.step (hp : Plan ops a.tmps.size ord k) (h : Drawn T ops ord k xs Hs a c0 listed a' c m) {i : Nat} {o : Oper} {c1 : Cfg} {m1 : Nat} {v : Value} (hi : i ∈ Region.ready .any ops.toArray listed) (ho : ops[i]? = some o) (hto : To c c1) (hok : Ok T.gl c1) (hH : c1.H = Hs m1)
    (hm1 : (m1 = m ∧ (isMem o = true → posOf ord i < k)) ∨ (m = posOf ord i ∧ m1 = m + 1 ∧ isMem o = true))
    (hv : isAl o = false → ∃ x, xs[posOf ord i]? = some x ∧ R c1.ρ c1.own c1.w x v)
    (ha : ∀ t, isAl o = true → o.op = .alloc t → ∃ g, v = .pointer (some ⟨g, 0, none⟩) ∧ c.w.heap.size ≤ g ∧ Early T c0.w.heap.size c1 t g) :
    Drawn T ops ord k xs Hs a c0 (listed.setIfInBounds i true) (a'.put o.dst v) c1 m1 := by
  obtain ⟨hl, -⟩ := Rel.ready_spec.1 hi
  have hil := Rel.lt_of_get ho
  have hdl : ∀ d', o.dst = some d' → d' < a'.tmps.size := fun d' hd' => by rw [h.size]; exact (hp.dst i o d' ho hd').1
  have hmm : m ≤ m1 := by rcases hm1 with ⟨e, -⟩ | ⟨-, e, -⟩ <;> omega
  have hne : ∀ (j : Nat) (oj : Oper) (d : Tmp), ops[j]? = some oj → oj.dst = some d → j ≠ i → o.dst ≠ some d := fun j oj d hj hd hji he => by
    have h1 := (hp.dst j oj d hj hd).2
    rw [(hp.dst i o d ho he).2] at h1
    exact hji (Option.some.inj h1).symm
  have hpe : ∀ j, j < ops.length → posOf ord j = posOf ord i → j = i := fun j hj he => hp.inj hj hil he
  refine ⟨h.to.trans hto, hok, by rw [Rel.size_put, h.size], by rw [Rel.defers_put, h.defers], by simpa using h.lsize, Rel.closed_set h.closed hi, hH, Nat.le_trans h.km hmm, ?_, fun j oj hj mj hk => ?_, fun j oj hj aj hlt => ?_, fun j oj d hj hlj hd hal => ?_, fun j oj d t hj hlj hd aj hop hmp => ?_,
    fun j j' oj oj' d d' hj hj' hlj hlj' hd hd' aj aj' hmj hmj' he => ?_, fun t ht => ?_⟩
  · rcases hm1 with ⟨e, -⟩ | ⟨e, e', -⟩
    · rw [e]; exact h.ml
    · have := (hp.pos i hil).1
      omega
  · by_cases hji : j = i
    · subst hji
      obtain rfl := Option.some.inj (ho.symm.trans hj)
      rcases hm1 with ⟨-, e⟩ | ⟨e, e', -⟩
      · have := e mj
        omega
      · exact ⟨fun _ => by omega, fun _ => by simp [Array.getD_eq_getD_getElem?, Rel.size_of_getD hl]⟩
    · have h1 := h.mem j oj hj mj hk
      have h2 : posOf ord j < m ↔ posOf ord j < m1 := by
        rcases hm1 with ⟨e, -⟩ | ⟨e, e', -⟩
        · rw [e]
        · constructor
          · omega
          · intro h3
            rcases Nat.lt_or_ge (posOf ord j) m with h4 | h4
            · exact h4
            · exact absurd (hpe j (Rel.lt_of_get hj) (by omega)) hji
      rw [← h2, ← h1]
      exact ⟨fun h3 => Rel.getD_set_other h3 hji, Rel.getD_set_keeps⟩
  · rcases hm1 with ⟨e, -⟩ | ⟨e, e', hme⟩
    · exact Rel.getD_set_keeps (h.al j oj hj aj (by omega))
    · rcases Nat.lt_or_ge (posOf ord j) m with h4 | h4
      · exact Rel.getD_set_keeps (h.al j oj hj aj h4)
      · obtain rfl := hpe j (Rel.lt_of_get hj) (by omega)
        obtain rfl := Option.some.inj (ho.symm.trans hj)
        rw [al_not_mem aj] at hme
        cases hme
  · by_cases hji : j = i
    · subst hji
      obtain rfl := Option.some.inj (ho.symm.trans hj)
      have hna : isAl o = false := by
        cases hh : isAl o with
        | false => rfl
        | true =>
          exfalso
          have h3 := hal hh
          rcases hm1 with ⟨e, -⟩ | ⟨-, -, hme⟩
          · have := h.al j o ho hh (by omega)
            rw [hl] at this
            cases this
          · rw [al_not_mem hh] at hme
            cases hme
      obtain ⟨x, h1, h2⟩ := hv hna
      refine ⟨x, h1, ?_⟩
      rw [hd, put_same (hdl d hd)]
      exact h2
    · have hpm : isAl oj = true → posOf ord j < m := fun aj => by
        have h3 := hal aj
        rcases hm1 with ⟨e, -⟩ | ⟨e, e', -⟩
        · omega
        · rcases Nat.lt_or_ge (posOf ord j) m with h4 | h4
          · exact h4
          · exact absurd (hpe j (Rel.lt_of_get hj) (by omega)) hji
      obtain ⟨x, h1, h2⟩ := h.vals j oj d hj (Rel.getD_set_other hlj hji) hd hpm
      refine ⟨x, h1, ?_⟩
      rw [put_other hdl (hne j oj d hj hd hji)]
      exact h2.to hto h.ok
  · by_cases hji : j = i
    · subst hji
      obtain rfl := Option.some.inj (ho.symm.trans hj)
      obtain ⟨g, h1, -, h3⟩ := ha t aj hop
      refine ⟨g, ?_, h3⟩
      rw [hd, put_same (hdl d hd)]
      exact h1
    · obtain ⟨g, h1, h2⟩ := h.early j oj d t hj (Rel.getD_set_other hlj hji) hd aj hop (by omega)
      refine ⟨g, ?_, h2.to hto⟩
      rw [put_other hdl (hne j oj d hj hd hji)]
      exact h1
  · have key : ∀ (j : Nat) oj d, ops[j]? = some oj → (listed.setIfInBounds i true).getD j true = true → oj.dst = some d → isAl oj = true → m1 ≤ posOf ord j → j ≠ i → isAl o = true → ∀ w, (a'.put o.dst v).tmps.getD d undef = w → w = v → False := by
      intro j oj d hj hlj hd aj hmj hji hao w hw hwv
      obtain ⟨t, -, hop, -, -⟩ := isAl_spec aj
      obtain ⟨t', -, hop', -, -⟩ := isAl_spec hao
      obtain ⟨g, h1, h2⟩ := h.early j oj d t hj (Rel.getD_set_other hlj hji) hd aj hop (by omega)
      obtain ⟨g', h3, h4, -⟩ := ha t' hao hop'
      rw [put_other hdl (hne j oj d hj hd hji), h1] at hw
      rw [← hw, h3] at hwv
      have h5 := h2.lt
      simp only [Value.pointer.injEq, Option.some.injEq, Addr.mk.injEq] at hwv
      omega
    by_cases hji : j = i
    · by_cases hji' : j' = i
      · rw [hji, hji']
      · subst hji
        obtain rfl := Option.some.inj (ho.symm.trans hj)
        rw [hd, put_same (hdl d hd), ← hd] at he
        exact (key j' oj' d' hj' hlj' hd' aj' hmj' hji' aj _ he.symm rfl).elim
    · by_cases hji' : j' = i
      · subst hji'
        obtain rfl := Option.some.inj (ho.symm.trans hj')
        rw [hd', put_same (hdl d' hd'), ← hd'] at he
        exact (key j oj d hj hlj hd aj hmj hji aj' _ he rfl).elim
      · rw [put_other hdl (hne j oj d hj hd hji), put_other hdl (hne j' oj' d' hj' hd' hji')] at he
        exact h.apart j j' oj oj' d d' hj hj' (Rel.getD_set_other hlj hji) (Rel.getD_set_other hlj' hji') hd hd' aj aj' (by omega) (by omega) he
  · rw [put_other hdl fun he => absurd rfl (Rel.getD_set_true (ht i o ho he)).1]
    exact h.rest t fun j oj hj hd => (Rel.getD_set_true (ht j oj hj hd)).2
end
end Go.Proofs.Ytkpolehpdgnliaa.Ev
