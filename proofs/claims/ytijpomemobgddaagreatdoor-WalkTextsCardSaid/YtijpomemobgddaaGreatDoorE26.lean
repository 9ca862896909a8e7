/- New blocks that come up ahead of their place in the canonical order. -/
import Derived.Test.YtijpomemobgddaaGreatDoorE23
set_option linter.unusedSimpArgs false
set_option linter.unusedVariables false
namespace Go.Proofs.YtijpomemobgddaaGreatDoor.Ev
open Go Go.RowKit
variable {P : Program} {T : Tb}

/-- A new block that the evaluator does not know of yet. -/
structure Early (T : Tb) (b0 : Nat) (c : Cfg) (t : TypeId) (g : Nat) : Prop where
  new : b0 ≤ g
  own : c.own g
  off : ¬ img c.ρ c.H g
  lies : ∃ ty cur, T t = some ty ∧ c.w.heap[g]? = some (.cells cur t (0, 0)) ∧ cur.toList = ty.zero
theorem Early.lt {b0 : Nat} {c : Cfg} {t : TypeId} {g : Nat} (h : Early T b0 c t g) : g < c.w.heap.size := by
  obtain ⟨ty, cur, -, h1, -⟩ := h.lies
  exact (Array.getElem?_eq_some_iff.1 h1).1
theorem Early.to {b0 : Nat} {c c' : Cfg} {t : TypeId} {g : Nat} (h : Early T b0 c t g) (ht : To c c') : Early T b0 c' t g := by
  obtain ⟨ty, cur, h0, h1, h2⟩ := h.lies
  exact ⟨h.new, (ht.own g h.lt).2 h.own, fun hi => h.off (ht.img g h.lt hi), ty, cur, h0, (ht.same g h.lt h.off).trans h1, h2⟩

theorem early_new (hT : TOk P T) {c : Cfg} (ok : Ok T.gl c) {a : Act} {o : Oper} {t : TypeId} {ty : Ty} (hty : T t = some ty) (ho : o.op = .alloc t) :
    ∃ c' : Cfg, (execOp a.eval o).run P c.w = .ok (.value (.pointer (some ⟨c.w.heap.size, 0, none⟩))) c'.w ∧ c'.H = c.H ∧ c'.ρ = c.ρ ∧ To c c' ∧ Ok T.gl c' ∧ Early T c.w.heap.size c' t c.w.heap.size := by
  obtain ⟨z, hz, hzc, -⟩ := (hT.facts hty).zero c.w
  have hG : Grow c.w (c.w.alloc (.cells z.cells t)) := (Below.refl _ _).alloc (Nat.le_refl _) _
  have hheap : (c.w.alloc (.cells z.cells t)).heap = c.w.heap.push (.cells z.cells t) := rfl
  obtain ⟨hto0, ok0⟩ := ok.grow hG
  have hto : To c ⟨c.ρ, fun g => c.own g ∨ g = c.w.heap.size, c.H, c.w.alloc (.cells z.cells t)⟩ :=
    ⟨hto0.pre, hto0.size, hto0.os, hto0.tape, hto0.output, hto0.img, hto0.same, hto0.shape, hto0.maps, hto0.kinds, fun g hg => ⟨fun h => h.elim id fun h => by omega, .inl⟩⟩
  refine ⟨⟨c.ρ, fun g => c.own g ∨ g = c.w.heap.size, c.H, c.w.alloc (.cells z.cells t)⟩, ?_, rfl, rfl, hto, ⟨ok.len, ?_, fun g hg => .inl (ok.img g hg), fun b e cs wh g hb hg => ?_, ok.inj, hto.glob ok⟩, Nat.le_refl _, .inr rfl, fun hi => ?_, ty, z.cells, hty, ?_, hzc⟩
  · have hx : execOp a.eval o = (do pure (.value (← Instr.alloc t true (.tuple #[]))) : Sem Next) := by simp only [execOp, ho]
    rw [hx]
    simp [Instr.alloc, hz, newVar, newRow]
  · rintro g (h | h)
    · exact Nat.lt_of_lt_of_le (ok.lt g h) hto.size
    · simp [hheap, h]
  · exact (ok.blk b e cs wh g hb hg).keep (hto.keeps ok) (hG.block g (ok.lt_blk hb hg))
  · have := ok.lt _ (ok.img _ hi)
    omega
  · simp [hheap]

theorem early_add {c : Cfg} (ok : Ok T.gl c) {b0 g : Nat} {t : TypeId} {ty : Ty} (he : Early T b0 c t g) (hty : T t = some ty) :
    ∃ c' : Cfg, c'.w = c.w ∧ c'.own = c.own ∧ c'.H = c.H ++ [some ⟨t, ty.zero.map .v, true⟩] ∧ c'.ρ = c.ρ ++ [g] ∧ Ok T.gl c' ∧ Keeps c.ρ c.own c.w c'.ρ c'.own c'.w ∧ c'.ρ[c.H.length]? = some g ∧ (∀ g', img c'.ρ c'.H g' → img c.ρ c.H g' ∨ g' = g) ∧
      ∀ c0 : Cfg, c0.w.heap.size ≤ g → To c0 c → To c0 c' := by
  obtain ⟨ty', cur, h0, h1, h2⟩ := he.lies
  rw [hty] at h0
  obtain rfl := Option.some.inj h0
  let c' : Cfg := ⟨c.ρ ++ [g], c.own, c.H ++ [some ⟨t, ty.zero.map .v, true⟩], c.w⟩
  have hlen := ok.len
  have live : ∀ (b : Nat) (k : Blk) (g1 : Nat), c'.H[b]? = some (some k) → c'.ρ[b]? = some g1 → (c.H[b]? = some (some k) ∧ c.ρ[b]? = some g1) ∨ (b = c.H.length ∧ k = ⟨t, ty.zero.map .v, true⟩ ∧ g1 = g) := by
    intro b k g1 hb hg
    rcases Nat.lt_or_ge b c.H.length with hlt | hge
    · left
      exact ⟨by simpa [c', List.getElem?_append_left hlt] using hb, by simpa [c', List.getElem?_append_left (by omega : b < c.ρ.length)] using hg⟩
    · right
      have hb' : b = c.H.length := by
        have := (List.getElem?_eq_some_iff.1 hb).1
        simp [c'] at this
        omega
      subst hb'
      refine ⟨rfl, ?_, ?_⟩
      · simpa [c', eq_comm] using hb
      · simp only [c'] at hg
        rw [← hlen, List.getElem?_append_right (Nat.le_refl _)] at hg
        simpa [eq_comm] using hg
  have hk : Keeps c.ρ c.own c.w c'.ρ c'.own c'.w := ⟨List.prefix_append _ _, Nat.le_refl _, fun _ _ h => ⟨h, rfl⟩, fun _ cur _ fz h => ⟨cur, fz, h, rfl⟩, fun _ es n h => ⟨es, n, h⟩, fun _ o h _ => ⟨o, h, rfl⟩⟩
  have himg : ∀ g', img c'.ρ c'.H g' → img c.ρ c.H g' ∨ g' = g := by
    rintro g' ⟨b, k, hb, hbg⟩
    rcases live b k g' hb hbg with ⟨h3, h4⟩ | ⟨-, -, h3⟩
    · exact .inl ⟨b, k, h3, h4⟩
    · exact .inr h3
  refine ⟨c', rfl, rfl, rfl, rfl, ⟨by simp [c', hlen], ok.lt, fun g' hg' => ?_, fun b e1 cs1 wh1 g1 hb hg => ?_, fun b b' k k' g1 hb hb' hg hg' => ?_, ok.glob⟩, hk, ?_, himg, fun c0 hs hto => ?_⟩
  · rcases himg g' hg' with h | h
    · exact ok.img g' h
    · subst h; exact he.own
  · rcases live b _ g1 hb hg with ⟨h3, h4⟩ | ⟨-, h3, h4⟩
    · exact (ok.blk b e1 cs1 wh1 g1 h3 h4).keep hk rfl
    · simp only [Blk.mk.injEq] at h3
      obtain ⟨rfl, rfl, rfl⟩ := h3
      subst h4
      exact .inl ⟨cur, ty.zero, h1, RL.exact _, by rw [h2]; exact List.prefix_rfl, fun _ => by rw [← Array.length_toList, h2]; simp⟩
  · rcases live b k g1 hb hg with ⟨h3, h4⟩ | ⟨h3, -, h4⟩ <;> rcases live b' k' g1 hb' hg' with ⟨h5, h6⟩ | ⟨h5, -, h6⟩
    · exact ok.inj b b' k k' g1 h3 h5 h4 h6
    · subst h6
      exact absurd ⟨b, k, h3, h4⟩ he.off
    · subst h4
      exact absurd ⟨b', k', h5, h6⟩ he.off
    · omega
  · simp only [c']
    rw [← hlen]
    simp
  · exact ⟨hto.pre.trans (List.prefix_append _ _), hto.size, hto.os, hto.tape, hto.output, fun g1 hg1 hi => (himg g1 hi).elim (hto.img g1 hg1) (fun h => by omega), hto.same, hto.shape, hto.maps, hto.kinds, hto.own⟩
end Go.Proofs.YtijpomemobgddaaGreatDoor.Ev
namespace Go.Proofs.YtijpomemobgddaaGreatDoor.Ev
open Go Go.RowKit
variable {P : Program} {T : Tb}

structure Drawn (T : Tb) (ops : List Oper) (ord : List Nat) (k : Nat) (xs : List A) (Hs : Nat → Heap) (a : Act) (c0 : Cfg) (listed : Array Bool) (a' : Act) (c : Cfg) (m : Nat) : Prop where
  to : To c0 c
  ok : Ok T.gl c
  size : a'.tmps.size = a.tmps.size
  defers : a'.defers = a.defers
  lsize : listed.size = ops.length
  closed : Rel.Closed ops listed
  heap : c.H = Hs m
  km : k ≤ m
  ml : m ≤ ops.length
  mem : ∀ (i : Nat) o, ops[i]? = some o → isMem o = true → k ≤ posOf ord i → (listed.getD i true = true ↔ posOf ord i < m)
  al : ∀ (i : Nat) o, ops[i]? = some o → isAl o = true → posOf ord i < m → listed.getD i true = true
  vals : ∀ (i : Nat) o d, ops[i]? = some o → listed.getD i true = true → o.dst = some d → (isAl o = true → posOf ord i < m) → ∃ x, xs[posOf ord i]? = some x ∧ R c.ρ c.own c.w x (a'.tmps.getD d undef)
  early : ∀ (i : Nat) o d t, ops[i]? = some o → listed.getD i true = true → o.dst = some d → isAl o = true → o.op = .alloc t → m ≤ posOf ord i → ∃ g, a'.tmps.getD d undef = .pointer (some ⟨g, 0, none⟩) ∧ Early T c0.w.heap.size c t g
  apart : ∀ (i j : Nat) o o' d d', ops[i]? = some o → ops[j]? = some o' → listed.getD i true = true → listed.getD j true = true → o.dst = some d → o'.dst = some d' → isAl o = true → isAl o' = true → m ≤ posOf ord i → m ≤ posOf ord j → a'.tmps.getD d undef = a'.tmps.getD d' undef → i = j
  rest : ∀ t, (∀ (j : Nat) o, ops[j]? = some o → o.dst = some t → listed.getD j true = false) → a'.tmps.getD t undef = a.tmps.getD t undef

theorem isAl_spec {o : Oper} (h : isAl o = true) : ∃ t d, o.op = .alloc t ∧ o.guard = none ∧ o.dst = some d := by
  unfold isAl at h
  split at h
  · rename_i t d h1 h2 h3
    exact ⟨t, d, h1, h2, h3⟩
  · cases h
theorem al_not_mem {o : Oper} (h : isAl o = true) : isMem o = false := by simp [isMem, h]
theorem al_not_pure {o : Oper} (h : isAl o = true) : pureOp o.op = false := by
  obtain ⟨t, d, h1, -, -⟩ := isAl_spec h
  simp [h1, pureOp]
theorem pure_of {o : Oper} (h : isMem o = false) (h' : isAl o = false) : pureOp o.op = true := by simpa [isMem, h'] using h

section
variable {q : OrcQ} {ov : Orc} {ops : List Oper} {ord : List Nat} {k nt m : Nat} {ms : List MOp} {xs : List A} {Hs : Nat → Heap} {st : St} {a a' : Act} {c0 c : Cfg} {listed : Array Bool}

theorem put_same {d : Tmp} {v : Value} (hd : d < a.tmps.size) : (a.put (some d) v).tmps.getD d undef = v := by rw [Rel.getD_put hd, if_pos rfl]
theorem put_other {d : Option Tmp} {v : Value} {t : Tmp} (hd : ∀ d', d = some d' → d' < a.tmps.size) (ht : d ≠ some t) : (a.put d v).tmps.getD t undef = a.tmps.getD t undef := by
  cases d with
  | none => rfl
  | some d =>
    rw [Rel.getD_put (hd d rfl), if_neg]
    rintro rfl
    exact ht rfl

/-- One operation has come up. -/
theorem Drawn.step (hp : Plan ops a.tmps.size ord k) (h : Drawn T ops ord k xs Hs a c0 listed a' c m) {i : Nat} {o : Oper} {c1 : Cfg} {m1 : Nat} {v : Value} (hi : i ∈ Region.ready .any ops.toArray listed) (ho : ops[i]? = some o) (hto : To c c1) (hok : Ok T.gl c1) (hH : c1.H = Hs m1)
    (hm1 : (m1 = m ∧ (isMem o = true → posOf ord i < k)) ∨ (m = posOf ord i ∧ m1 = m + 1 ∧ isMem o = true))
    (hv : isAl o = false → ∃ x, xs[posOf ord i]? = some x ∧ R c1.ρ c1.own c1.w x v)
    (ha : ∀ t, isAl o = true → o.op = .alloc t → ∃ g, v = .pointer (some ⟨g, 0, none⟩) ∧ c.w.heap.size ≤ g ∧ Early T c0.w.heap.size c1 t g) :
    Drawn T ops ord k xs Hs a c0 (listed.setIfInBounds i true) (a'.put o.dst v) c1 m1 := by
  obtain ⟨hl, -⟩ := Rel.ready_spec.1 hi
  have hil := Rel.lt_of_get ho
  have hdl : ∀ d', o.dst = some d' → d' < a'.tmps.size := fun d' hd' => by rw [h.size]; exact (hp.dst i o d' ho hd').1
  have hmm : m ≤ m1 := by rcases hm1 with ⟨e, -⟩ | ⟨-, e, -⟩ <;> omega
  have hne : ∀ (j : Nat) (oj : Oper) (d : Tmp), ops[j]? = some oj → oj.dst = some d → j ≠ i → o.dst ≠ some d := fun j oj d hj hd hji he => by
    have h1 := (hp.dst j oj d hj hd).2
    rw [(hp.dst i o d ho he).2] at h1
    exact hji (Option.some.inj h1).symm
  have hpe : ∀ j, j < ops.length → posOf ord j = posOf ord i → j = i := fun j hj he => hp.inj hj hil he
  refine ⟨h.to.trans hto, hok, by rw [Rel.size_put, h.size], by rw [Rel.defers_put, h.defers], by simpa using h.lsize, Rel.closed_set h.closed hi, hH, Nat.le_trans h.km hmm, ?_, fun j oj hj mj hk => ?_, fun j oj hj aj hlt => ?_, fun j oj d hj hlj hd hal => ?_, fun j oj d t hj hlj hd aj hop hmp => ?_,
    fun j j' oj oj' d d' hj hj' hlj hlj' hd hd' aj aj' hmj hmj' he => ?_, fun t ht => ?_⟩
  · rcases hm1 with ⟨e, -⟩ | ⟨e, e', -⟩
    · rw [e]; exact h.ml
    · have := (hp.pos i hil).1
      omega
  · by_cases hji : j = i
    · subst hji
      obtain rfl := Option.some.inj (ho.symm.trans hj)
      rcases hm1 with ⟨-, e⟩ | ⟨e, e', -⟩
      · have := e mj
        omega
      · exact ⟨fun _ => by omega, fun _ => by simp [Array.getD_eq_getD_getElem?, Rel.size_of_getD hl]⟩
    · have h1 := h.mem j oj hj mj hk
      have h2 : posOf ord j < m ↔ posOf ord j < m1 := by
        rcases hm1 with ⟨e, -⟩ | ⟨e, e', -⟩
        · rw [e]
        · constructor
          · omega
          · intro h3
            rcases Nat.lt_or_ge (posOf ord j) m with h4 | h4
            · exact h4
            · exact absurd (hpe j (Rel.lt_of_get hj) (by omega)) hji
      rw [← h2, ← h1]
      exact ⟨fun h3 => Rel.getD_set_other h3 hji, Rel.getD_set_keeps⟩
  · rcases hm1 with ⟨e, -⟩ | ⟨e, e', hme⟩
    · exact Rel.getD_set_keeps (h.al j oj hj aj (by omega))
    · rcases Nat.lt_or_ge (posOf ord j) m with h4 | h4
      · exact Rel.getD_set_keeps (h.al j oj hj aj h4)
      · obtain rfl := hpe j (Rel.lt_of_get hj) (by omega)
        obtain rfl := Option.some.inj (ho.symm.trans hj)
        rw [al_not_mem aj] at hme
        cases hme
  · by_cases hji : j = i
    · subst hji
      obtain rfl := Option.some.inj (ho.symm.trans hj)
      have hna : isAl o = false := by
        cases hh : isAl o with
        | false => rfl
        | true =>
          exfalso
          have h3 := hal hh
          rcases hm1 with ⟨e, -⟩ | ⟨-, -, hme⟩
          · have := h.al j o ho hh (by omega)
            rw [hl] at this
            cases this
          · rw [al_not_mem hh] at hme
            cases hme
      obtain ⟨x, h1, h2⟩ := hv hna
      refine ⟨x, h1, ?_⟩
      rw [hd, put_same (hdl d hd)]
      exact h2
    · have hpm : isAl oj = true → posOf ord j < m := fun aj => by
        have h3 := hal aj
        rcases hm1 with ⟨e, -⟩ | ⟨e, e', -⟩
        · omega
        · rcases Nat.lt_or_ge (posOf ord j) m with h4 | h4
          · exact h4
          · exact absurd (hpe j (Rel.lt_of_get hj) (by omega)) hji
      obtain ⟨x, h1, h2⟩ := h.vals j oj d hj (Rel.getD_set_other hlj hji) hd hpm
      refine ⟨x, h1, ?_⟩
      rw [put_other hdl (hne j oj d hj hd hji)]
      exact h2.to hto h.ok
  · by_cases hji : j = i
    · subst hji
      obtain rfl := Option.some.inj (ho.symm.trans hj)
      obtain ⟨g, h1, -, h3⟩ := ha t aj hop
      refine ⟨g, ?_, h3⟩
      rw [hd, put_same (hdl d hd)]
      exact h1
    · obtain ⟨g, h1, h2⟩ := h.early j oj d t hj (Rel.getD_set_other hlj hji) hd aj hop (by omega)
      refine ⟨g, ?_, h2.to hto⟩
      rw [put_other hdl (hne j oj d hj hd hji)]
      exact h1
  · have key : ∀ (j : Nat) oj d, ops[j]? = some oj → (listed.setIfInBounds i true).getD j true = true → oj.dst = some d → isAl oj = true → m1 ≤ posOf ord j → j ≠ i → isAl o = true → ∀ w, (a'.put o.dst v).tmps.getD d undef = w → w = v → False := by
      intro j oj d hj hlj hd aj hmj hji hao w hw hwv
      obtain ⟨t, -, hop, -, -⟩ := isAl_spec aj
      obtain ⟨t', -, hop', -, -⟩ := isAl_spec hao
      obtain ⟨g, h1, h2⟩ := h.early j oj d t hj (Rel.getD_set_other hlj hji) hd aj hop (by omega)
      obtain ⟨g', h3, h4, -⟩ := ha t' hao hop'
      rw [put_other hdl (hne j oj d hj hd hji), h1] at hw
      rw [← hw, h3] at hwv
      have h5 := h2.lt
      simp only [Value.pointer.injEq, Option.some.injEq, Addr.mk.injEq] at hwv
      omega
    by_cases hji : j = i
    · by_cases hji' : j' = i
      · rw [hji, hji']
      · subst hji
        obtain rfl := Option.some.inj (ho.symm.trans hj)
        rw [hd, put_same (hdl d hd), ← hd] at he
        exact (key j' oj' d' hj' hlj' hd' aj' hmj' hji' aj _ he.symm rfl).elim
    · by_cases hji' : j' = i
      · subst hji'
        obtain rfl := Option.some.inj (ho.symm.trans hj')
        rw [hd', put_same (hdl d' hd'), ← hd'] at he
        exact (key j oj d hj hlj hd aj hmj hji aj' _ he rfl).elim
      · rw [put_other hdl (hne j oj d hj hd hji), put_other hdl (hne j' oj' d' hj' hd' hji')] at he
        exact h.apart j j' oj oj' d d' hj hj' (Rel.getD_set_other hlj hji) (Rel.getD_set_other hlj' hji') hd hd' aj aj' (by omega) (by omega) he
  · rw [put_other hdl fun he => absurd rfl (Rel.getD_set_true (ht i o ho he)).1]
    exact h.rest t fun j oj hj hd => (Rel.getD_set_true (ht j oj hj hd)).2
end
end Go.Proofs.YtijpomemobgddaaGreatDoor.Ev
