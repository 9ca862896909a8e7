/- A drawn region under way: the canonical heap goes on past new blocks; what an operation looks at is known. -/
import Derived.Test.YtijpomemobgddaaGreatDoorE26
import Derived.Test.YtijpomemobgddaaGreatDoorE30
set_option linter.unusedSimpArgs false
set_option linter.unusedVariables false
namespace Go.Proofs.YtijpomemobgddaaGreatDoor.Ev
open Go Go.RowKit
variable {P : Program} {T : Tb}
section
variable {q : OrcQ} {ov : Orc} {ops : List Oper} {ord : List Nat} {k m : Nat} {ms : List MOp} {xs : List A} {Hs : Nat → Heap} {st : St} {a a' : Act} {c0 c : Cfg} {listed : Array Bool}

theorem stepA_pure {e : Env} {H H' : Heap} {mm : MOp} {x : A} (hpu : pureOp mm.op = true) (h : stepA T ov ⟨e, H⟩ mm = some (x, H')) : H' = H := by
  unfold stepA at h
  simp only at h
  cases hw : wants e mm.guard with
  | none => simp [hw] at h
  | some b =>
    cases b with
    | false =>
      simp only [hw, Option.some.injEq, Prod.mk.injEq] at h
      exact h.2.symm
    | true =>
      simp only [hw, pure_any hpu] at h
      cases hq : quietOp T e H mm.op with
      | none => simp [hq] at h
      | some y =>
        simp only [hq, Option.map_some, Option.some.injEq, Prod.mk.injEq] at h
        exact h.2.symm
theorem stepA_alloc {e : Env} {H H' : Heap} {mm : MOp} {x : A} {t : TypeId} (ho : mm.op = .alloc t) (hg : mm.guard = none) (h : stepA T ov ⟨e, H⟩ mm = some (x, H')) : ∃ ty, T t = some ty ∧ x = .ptr H.length 0 ∧ H' = H ++ [some ⟨t, ty.zero.map .v, true⟩] := by
  unfold stepA at h
  simp only [hg, wants, ho, anyOp, calls, loudOp] at h
  cases ht : T t with
  | none => simp [ht, quietOp] at h
  | some ty =>
    simp only [ht, Option.some.injEq, Prod.mk.injEq] at h
    exact ⟨ty, rfl, h.1.symm, h.2.symm⟩

theorem Drawn.advance (hp : Plan ops a.tmps.size ord k) (hc : cmpOrd a.tmps.size ops ord = some ms) (tr : Trace T q ov k ms st xs Hs) (h : Drawn T ops ord k xs Hs a c0 listed a' c m) {i : Nat} {o : Oper} (hi : ord[m]? = some i) (ho : ops[i]? = some o) (hme : isMem o = false) (hal : isAl o = true → listed.getD i true = true) :
    ∃ c', c'.w = c.w ∧ Drawn T ops ord k xs Hs a c0 listed a' c' (m + 1) := by
  have hml : m < ops.length := by rw [← hp.len]; exact Rel.lt_of_get hi
  have hpi : posOf ord i = m := by
    obtain ⟨i', h1, -, h3⟩ := hp.at_ m hml
    rw [hi] at h1
    obtain rfl := Option.some.inj h1
    exact h3
  have hpe : ∀ (j : Nat) (oj : Oper), ops[j]? = some oj → posOf ord j = m → j = i := fun j oj hj he => hp.inj (Rel.lt_of_get hj) (Rel.lt_of_get ho) (he.trans hpi.symm)
  obtain ⟨o1, mm, ho1, hmm, hcm⟩ := (cmpOrd_get hc).2 m i hi
  obtain rfl := Option.some.inj (ho.symm.trans ho1)
  obtain ⟨x, hx, hst⟩ := tr.tail m mm h.km hmm
  have hmemlt : ∀ (j : Nat) oj, ops[j]? = some oj → isMem oj = true → (posOf ord j < m ↔ posOf ord j < m + 1) := fun j oj hj mj => by
    constructor
    · omega
    · intro h1
      rcases Nat.lt_or_ge (posOf ord j) m with h2 | h2
      · exact h2
      · obtain rfl := hpe j oj hj (by omega)
        obtain rfl := Option.some.inj (ho.symm.trans hj)
        rw [hme] at mj
        cases mj
  cases ha : isAl o with
  | false =>
    have hpu := pure_of hme ha
    have hH : Hs (m + 1) = Hs m := stepA_pure (by rw [hcm.op]; exact hpu) hst
    have hallt : ∀ (j : Nat) oj, ops[j]? = some oj → isAl oj = true → posOf ord j < m + 1 → posOf ord j < m := fun j oj hj aj h1 => by
      rcases Nat.lt_or_ge (posOf ord j) m with h2 | h2
      · exact h2
      · obtain rfl := hpe j oj hj (by omega)
        obtain rfl := Option.some.inj (ho.symm.trans hj)
        rw [ha] at aj
        cases aj
    exact ⟨c, rfl, h.to, h.ok, h.size, h.defers, h.lsize, h.closed, by rw [hH]; exact h.heap, by have := h.km; omega, hml, fun j oj hj mj hk => (h.mem j oj hj mj hk).trans (hmemlt j oj hj mj), fun j oj hj aj hlt => h.al j oj hj aj (hallt j oj hj aj hlt),
      fun j oj d hj hlj hd hpj => h.vals j oj d hj hlj hd fun aj => hallt j oj hj aj (hpj aj), fun j oj d t hj hlj hd aj hop hmp => h.early j oj d t hj hlj hd aj hop (by omega),
      fun j j' oj oj' d d' hj hj' hlj hlj' hd hd' aj aj' h1 h2 he => h.apart j j' oj oj' d d' hj hj' hlj hlj' hd hd' aj aj' (by omega) (by omega) he, h.rest⟩
  | true =>
    obtain ⟨t, d, hop, hgd, hd⟩ := isAl_spec ha
    have hmg : mm.guard = none := by
      rcases hcm.guard with ⟨-, h2⟩ | ⟨g, b, t', h1, -, -⟩
      · exact h2
      · rw [hgd] at h1; cases h1
    obtain ⟨ty, hty, rfl, hH⟩ := stepA_alloc (by rw [hcm.op]; exact hop) hmg hst
    obtain ⟨g, hg, hE⟩ := h.early i o d t ho (hal ha) hd ha hop (by omega)
    obtain ⟨c', w1, w2, w3, w4, w5, w6, w7, w8, w9⟩ := early_add h.ok hE hty
    have hel : ∀ {t' : TypeId} {g' : Nat}, Early T c0.w.heap.size c t' g' → g' ≠ g → Early T c0.w.heap.size c' t' g' := fun hE' hne => by
      obtain ⟨ty', cur, k1, k2, k3⟩ := hE'.lies
      exact ⟨hE'.new, by rw [w2]; exact hE'.own, fun hi => (w8 _ hi).elim hE'.off hne, ty', cur, k1, by rw [w1]; exact k2, k3⟩
    refine ⟨c', w1, w9 c0 hE.new h.to, w5, h.size, h.defers, h.lsize, h.closed, by rw [w3, hH, h.heap], by have := h.km; omega, hml, fun j oj hj mj hk => (h.mem j oj hj mj hk).trans (hmemlt j oj hj mj), fun j oj hj aj hlt => ?_,
      fun j oj d' hj hlj hd' hpj => ?_, fun j oj d' t' hj hlj hd' aj hop' hmp => ?_, fun j j' oj oj' d d' hj hj' hlj hlj' hd hd' aj aj' h1 h2 he => h.apart j j' oj oj' d d' hj hj' hlj hlj' hd hd' aj aj' (by omega) (by omega) he, h.rest⟩
    · rcases Nat.lt_or_ge (posOf ord j) m with h2 | h2
      · exact h.al j oj hj aj h2
      · obtain rfl := hpe j oj hj (by omega)
        exact hal ha
    · by_cases hji : j = i
      · subst hji
        obtain rfl := Option.some.inj (ho.symm.trans hj)
        obtain rfl := Option.some.inj (hd.symm.trans hd')
        refine ⟨_, by rw [hpi]; exact hx, ?_⟩
        rw [R, hg, ← h.heap]
        obtain ⟨ty', cur, -, k2, -⟩ := hE.lies
        exact ⟨g, w7, rfl, cur, t, (0, 0), by rw [w1]; exact k2⟩
      · obtain ⟨y, k1, k2⟩ := h.vals j oj d' hj hlj hd' fun aj => by
          have := hpj aj
          rcases Nat.lt_or_ge (posOf ord j) m with h2 | h2
          · exact h2
          · exact absurd (hpe j oj hj (by omega)) hji
        exact ⟨y, k1, R.keep w6 _ _ k2⟩
    · obtain ⟨g', k1, k2⟩ := h.early j oj d' t' hj hlj hd' aj hop' (by omega)
      refine ⟨g', k1, hel k2 fun hgg => ?_⟩
      subst hgg
      have := h.apart j i oj o d' d hj ho hlj (hal ha) hd' hd aj ha (by omega) (by omega) (k1.trans hg.symm)
      subst this
      omega

/-- On to a later place, where there is nothing but new blocks that have come up, and operations of no effect, between. -/
theorem Drawn.upto (hp : Plan ops a.tmps.size ord k) (hc : cmpOrd a.tmps.size ops ord = some ms) (tr : Trace T q ov k ms st xs Hs) : ∀ (d m : Nat) (c : Cfg), Drawn T ops ord k xs Hs a c0 listed a' c m → m + d ≤ ops.length →
    (∀ (p i : Nat) o, m ≤ p → p < m + d → ord[p]? = some i → ops[i]? = some o → isMem o = false ∧ (isAl o = true → listed.getD i true = true)) → ∃ c', c'.w = c.w ∧ Drawn T ops ord k xs Hs a c0 listed a' c' (m + d)
  | 0, m, c, h, _, _ => ⟨c, rfl, h⟩
  | d + 1, m, c, h, hl, hall => by
    obtain ⟨i, h1, h2, -⟩ := hp.at_ m (by omega)
    have ho : ops[i]? = some ops[i] := List.getElem?_eq_getElem h2
    obtain ⟨h3, h4⟩ := hall m i _ (Nat.le_refl _) (by omega) h1 ho
    obtain ⟨c1, e1, g1⟩ := h.advance hp hc tr h1 ho h3 h4
    obtain ⟨c2, e2, g2⟩ := Drawn.upto hp hc tr d (m + 1) c1 g1 (by omega) fun p j oj hp1 hp2 hj hoj => hall p j oj (by omega) (by omega) hj hoj
    exact ⟨c2, e2.trans e1, by rw [show m + (d + 1) = m + 1 + d by omega]; exact g2⟩

/-- What an operation that may come up looks at, is known. -/
theorem Drawn.slot (hp : Plan ops a.tmps.size ord k) (hc : cmpOrd a.tmps.size ops ord = some ms) (h : Drawn T ops ord k xs Hs a c0 listed a' c m) (ok0 : Ok T.gl c0) (he : EnvR c0 st.env a) {i : Nat} {o : Oper} (hi : i ∈ Region.ready .any ops.toArray listed) (ho : ops[i]? = some o)
    (hm : isMem o = true → k ≤ posOf ord i → m = posOf ord i) {t : Tmp} (ht : t ∈ o.looksAt ops.toArray) {z : A} (hz : look (puts st.env (ms.take (posOf ord i)) (xs.take (posOf ord i))) t = some z) : R c.ρ c.own c.w z (a'.tmps.getD t undef) := by
  obtain ⟨hl, o1, ho1, hpr⟩ := Rel.ready_spec.1 hi
  obtain rfl := Option.some.inj (ho.symm.trans ho1)
  have old : (∀ w, Rel.writer ops 0 t = some w → posOf ord i ≤ posOf ord w) → (∀ (j : Nat) oj, ops[j]? = some oj → oj.dst = some t → listed.getD j true = false) → R c.ρ c.own c.w z (a'.tmps.getD t undef) := fun h1 h2 => by
    rw [canon_none hp hc h1] at hz
    rw [h.rest t h2]
    exact (he t z hz).to h.to ok0
  cases hw : Rel.writer ops 0 t with
  | none => exact old (fun w h1 => by rw [hw] at h1; cases h1) fun j oj hj hd => absurd hd (Rel.writer_none hw oj (List.mem_of_getElem? hj))
  | some w =>
    obtain ⟨-, ow, how, hdw⟩ := Rel.writer_some hw
    have how' : ops[w]? = some ow := by simpa using how
    rcases hp.looks i o t w ho ht hw with hpw | han
    · have hlw := Rel.getD_mono (hpr w hpw)
      obtain ⟨x, h1, h2⟩ := h.vals w ow t how' hlw hdw fun aw => by
        obtain ⟨hkw, u, ou, hou, mu, hwu, hanc, hfirst, hread⟩ := hp.al w ow how' aw
        rcases hread i o t ho hpw ht hw with rfl | hau
        · obtain rfl := Option.some.inj (ho.symm.trans hou)
          have := hm mu (by omega)
          omega
        · have hlu := Rel.anc_listed hp.ancs h.closed i o ho (fun p hpm => Rel.getD_mono (hpr p hpm)) u hau
          have := (h.mem u ou hou mu (by omega)).1 hlu
          omega
      rw [canon_some hp hc hw (hp.preds i o w ho hpw) h1] at hz
      obtain rfl := Option.some.inj hz
      exact h2
    · have hwl := Rel.lt_of_get how'
      have hpos := (hp.anc_pos w i hwl han).2
      refine old (fun w' h1 => ?_) fun j oj hj hd => ?_
      · rw [hw] at h1
        obtain rfl := Option.some.inj h1
        omega
      · have h1 := (hp.dst j oj t hj hd).2
        rw [hw] at h1
        obtain rfl := Option.some.inj h1
        cases hlj : listed.getD w true with
        | false => rfl
        | true =>
          have := Rel.anc_listed hp.ancs h.closed w ow how' (fun p hpm => h.closed w ow how' hlj p hpm) i han
          rw [hl] at this
          cases this

/-- While an operation that may come up in any order is still to come, only blocks of the region's own have been written. -/
theorem Drawn.low_mono (hp : Plan ops a.tmps.size ord k) (hc : cmpOrd a.tmps.size ops ord = some ms) (tr : Trace T q ov k ms st xs Hs) (h : Drawn T ops ord k xs Hs a c0 listed a' c m) {i : Nat} {o : Oper} (ho : ops[i]? = some o) (hl : listed.getD i true = false) (hme : isMem o = true) (hk : posOf ord i < k) :
    ∀ p, k ≤ p → p ≤ m → (∀ (j : Nat) oj, ops[j]? = some oj → isMem oj = true → k ≤ posOf ord j → posOf ord j < p → newSt ops oj = true) → HLe (Hs k) (Hs p) ∧ (Hs k).length ≤ (Hs p).length := by
  intro p
  induction p using Nat.strongRecOn with
  | ind p ih =>
    intro hkp hpm hnew
    rcases Nat.eq_or_lt_of_le hkp with rfl | hlt
    · exact ⟨HLe.refl _, Nat.le_refl _⟩
    · obtain ⟨p, rfl⟩ : ∃ p', p = p' + 1 := ⟨p - 1, by omega⟩
      obtain ⟨ih1, ih2⟩ := ih p (by omega) (by omega) (by omega) fun j oj h1 h2 h3 h4 => hnew j oj h1 h2 h3 (by omega)
      have hml := h.ml
      obtain ⟨j, hj1, hj2, hj3⟩ := hp.at_ p (by omega)
      obtain ⟨oj, mm, hoj, hmm, hcm⟩ := (cmpOrd_get hc).2 p j hj1
      obtain ⟨x, hx, hst⟩ := tr.tail p mm (by omega) hmm
      by_cases hpu : pureOp mm.op = true
      · rw [stepA_pure hpu hst]
        exact ⟨ih1, ih2⟩
      · cases hal : isAl oj with
        | true =>
          obtain ⟨t, d, hop, hgd, hd⟩ := isAl_spec hal
          have hmg : mm.guard = none := by
            rcases hcm.guard with ⟨-, h2⟩ | ⟨g, b, t', h1, -, -⟩
            · exact h2
            · rw [hgd] at h1; cases h1
          obtain ⟨ty, hty, rfl, hH⟩ := stepA_alloc (by rw [hcm.op]; exact hop) hmg hst
          rw [hH]
          exact ⟨ih1.trans (HLe.app _ _), by simp; omega⟩
        | false =>
          have hmj : isMem oj = true := by
            rw [hcm.op] at hpu
            simp [isMem, hpu, hal]
          have hns := hnew j oj hoj hmj (by omega) (by omega)
          · unfold newSt at hns
            split at hns
            · rename_i t z v hop
              split at hns
              · rename_i ja hwr
                rw [Bool.and_eq_true] at hns
                obtain ⟨hns1, hns2⟩ := hns
                obtain ⟨-, oa, hoa, hda⟩ := Rel.writer_some hwr
                have hoa' : ops[ja]? = some oa := by simpa using hoa
                have haa : isAl oa = true := by simpa [opA, hoa'] using hns1
                have hpa : posOf ord ja < p := by
                  have := hp.preds j oj ja hoj (by simpa using hns2)
                  omega
                obtain ⟨hka, -⟩ := hp.al ja oa hoa' haa
                obtain ⟨hpal, hpao⟩ := hp.pos ja (Rel.lt_of_get hoa')
                obtain ⟨oa2, ma, hoa2, hma, hcma⟩ := (cmpOrd_get hc).2 _ _ hpao
                obtain rfl := Option.some.inj (hoa'.symm.trans hoa2)
                obtain ⟨xa, hxa, hsta⟩ := tr.tail _ ma hka hma
                obtain ⟨ta, da, hopa, hgda, hdda⟩ := isAl_spec haa
                have hmga : ma.guard = none := by
                  rcases hcma.guard with ⟨-, h2⟩ | ⟨g, b, t', h1, -, -⟩
                  · exact h2
                  · rw [hgda] at h1; cases h1
                obtain ⟨tya, -, rfl, -⟩ := stepA_alloc (by rw [hcma.op]; exact hopa) hmga hsta
                have hlook := canon_some (e := st.env) hp hc hwr hpa hxa
                obtain ⟨-, ih3⟩ := ih (posOf ord ja) (by omega) hka (by omega) fun j oj h1 h2 h3 h4 => hnew j oj h1 h2 h3 (by omega)
                unfold stepA at hst
                simp only at hst
                cases hw : wants (puts st.env (ms.take p) (xs.take p)) mm.guard with
                | none => simp [hw] at hst
                | some b =>
                  cases b with
                  | false =>
                    simp only [hw, Option.some.injEq, Prod.mk.injEq] at hst
                    rw [← hst.2]
                    exact ⟨ih1, ih2⟩
                  | true =>
                    simp only [hw, hcm.op, hop, anyOp, calls] at hst
                    cases hq : loudOp T (puts st.env (ms.take p) (xs.take p)) (Hs p) (.store t (.tmp z) v) with
                    | none => simp [hq, quietOp] at hst
                    | some xH =>
                      obtain ⟨x1, H1⟩ := xH
                      simp only [hq, Option.some.injEq, Prod.mk.injEq] at hst
                      rw [← hst.2]
                      simp only [loudOp, opnd, hlook] at hq
                      split at hq
                      · cases ‹some (A.ptr _ _) = some _›
                        split at hq
                        · split at hq
                          · simp only [Option.some.injEq, Prod.mk.injEq] at hq
                            rw [← hq.2]
                            exact ⟨HLe.set ih1 ih3 _, by simpa using ih2⟩
                          · cases hq
                        · cases hq
                      · cases hq
              · cases hns
            · cases hns

theorem wants_congr {e e' : Env} {g : Option (Nat × Bool)} (h : ∀ t b, g = some (t, b) → look e t = look e' t) : wants e g = wants e' g := by
  cases g with
  | none => rfl
  | some p =>
    obtain ⟨t, b⟩ := p
    simp only [wants]
    rw [h t b rfl]
/-- An operation that may come up in any order gives, whenever it comes up, what it gives at the start. -/
theorem Drawn.low (hp : Plan ops a.tmps.size ord k) (hc : cmpOrd a.tmps.size ops ord = some ms) (tr : Trace T q ov k ms st xs Hs) (h : Drawn T ops ord k xs Hs a c0 listed a' c m)
    (hag : ∀ p, k ≤ p → p < ms.length → againAll T ⟨puts st.env (ms.take (p + 1)) (xs.take (p + 1)), Hs (p + 1)⟩ ((againAt ops ord k p).filterMap fun j => ms[posOf ord j]?) = true)
    {i : Nat} {o : Oper} (ho : ops[i]? = some o) (hl : listed.getD i true = false) (hme : isMem o = true) (hk : posOf ord i < k) {mm : MOp} (hmm : ms[posOf ord i]? = some mm) {x : A} (hx : xs[posOf ord i]? = some x)
    (hst : stepF T q ⟨puts st.env (ms.take (posOf ord i)) (xs.take (posOf ord i)), st.H⟩ mm = some x) :
    ∀ p, k ≤ p → p ≤ m → stepF T q ⟨puts st.env (ms.take (posOf ord i)) (xs.take (posOf ord i)), Hs p⟩ mm = some x := by
  intro p
  induction p with
  | zero =>
    intro hkp _
    omega
  | succ p ih =>
    intro hkp hpm
    rcases Nat.eq_or_lt_of_le hkp with rfl | hlt
    · rw [tr.low _ (Nat.le_refl _)]
      exact hst
    have ih := ih (by omega) (by omega)
    have hml := h.ml
    obtain ⟨j, hj1, hj2, hj3⟩ := hp.at_ p (by omega)
    obtain ⟨oj, mj, hoj, hmj, hcj⟩ := (cmpOrd_get hc).2 p j hj1
    have hlen : ms.length = ops.length := (cmpOrd_get hc).1.trans hp.len
    obtain ⟨y, hy, hstj⟩ := tr.tail p mj (by omega) hmj
    by_cases hpu : pureOp mj.op = true
    · rw [stepA_pure hpu hstj]
      exact ih
    cases hal : isAl oj with
    | true =>
      obtain ⟨t, d, hop, hgd, hd⟩ := isAl_spec hal
      have hmg : mj.guard = none := by
        rcases hcj.guard with ⟨-, h2⟩ | ⟨g, b, t', h1, -, -⟩
        · exact h2
        · rw [hgd] at h1; cases h1
      obtain ⟨ty, hty, rfl, hH⟩ := stepA_alloc (by rw [hcj.op]; exact hop) hmg hstj
      rw [hH]
      exact stepF_mono (HLe.app _ _) ih
    | false =>
      have hmemj : isMem oj = true := by
        rw [hcj.op] at hpu
        simp [isMem, hpu, hal]
      by_cases hnew : ∀ (u : Nat) ou, ops[u]? = some ou → isMem ou = true → k ≤ posOf ord u → posOf ord u < p + 1 → newSt ops ou = true
      · have := (h.low_mono hp hc tr ho hl hme hk (p + 1) (by omega) hpm hnew).1
        rw [tr.low k (Nat.le_refl _)] at this
        exact stepF_mono this hst
      · have hw : ∃ (u : Nat) (ou : Oper), ops[u]? = some ou ∧ isMem ou = true ∧ k ≤ posOf ord u ∧ posOf ord u < p + 1 ∧ newSt ops ou = false := by
          apply Classical.byContradiction
          intro hno
          refine hnew fun u ou h1 h2 h3 h4 => ?_
          cases hh : newSt ops ou with
          | true => rfl
          | false => exact absurd ⟨u, ou, h1, h2, h3, h4, hh⟩ hno
        obtain ⟨u, ou, hou, hmu, hku, hpu', hnu⟩ := hw
        have noanc : ∀ (v : Nat) ov', ops[v]? = some ov' → isMem ov' = true → k ≤ posOf ord v → posOf ord v < p + 1 → anc (Rel.masks ops []) v i = false := fun v ov' h1 h2 h3 h4 => by
          cases hh : anc (Rel.masks ops []) v i with
          | false => rfl
          | true =>
            have hlv : listed.getD v true = true := (h.mem v ov' h1 h2 h3).2 (by omega)
            have := Rel.anc_listed hp.ancs h.closed v ov' h1 (fun q hq => h.closed v ov' h1 hlv q hq) i hh
            rw [hl] at this
            cases this
        have hagn : agn ops o = true := by
          rcases hp.mem u i ou o hou ho hmu hme hku (by omega) with h1 | ⟨-, h1 | h1⟩
          · rw [noanc u ou hou hmu hku hpu'] at h1
            cases h1
          · rw [hnu] at h1
            cases h1
          · exact h1
        have hil := Rel.lt_of_get ho
        have hmem : mm ∈ (againAt ops ord k p).filterMap fun j => ms[posOf ord j]? := by
          refine List.mem_filterMap.2 ⟨i, ?_, hmm⟩
          unfold againAt
          have hany : (((List.range ops.length).filter fun i => opA ops isMem i && Nat.ble k (posOf ord i) && Nat.ble (posOf ord i) p).any fun i => !(opA ops (newSt ops) i)) = true := by
            refine List.any_eq_true.2 ⟨u, List.mem_filter.2 ⟨List.mem_range.2 (Rel.lt_of_get hou), ?_⟩, ?_⟩
            · simp only [opA, hou, hmu, Bool.and_eq_true, nble, true_and]
              exact ⟨hku, by omega⟩
            · simp [opA, hou, hnu]
          simp only [hany, cond_true]
          refine List.mem_filter.2 ⟨List.mem_range.2 hil, ?_⟩
          simp only [opA, ho, hme, Bool.true_and, Bool.and_eq_true, nblt]
          refine ⟨hk, List.all_eq_true.2 fun v hv => ?_⟩
          obtain ⟨hv1, hv2⟩ := List.mem_filter.1 hv
          simp only [Bool.and_eq_true, nble] at hv2
          have hvl := List.mem_range.1 hv1
          have hov : ops[v]? = some ops[v] := List.getElem?_eq_getElem hvl
          rw [noanc v _ hov (by simpa [opA, hov] using hv2.1.1) hv2.1.2 (by omega)]
          rfl
        obtain ⟨o1, mm1, ho1, hmm1, hcm⟩ := (cmpOrd_get hc).2 _ _ (hp.pos i hil).2
        obtain rfl := Option.some.inj (ho.symm.trans ho1)
        obtain rfl := Option.some.inj (hmm.symm.trans hmm1)
        have hslot : ∀ t ∈ o.looksAt ops.toArray, look (puts st.env (ms.take (p + 1)) (xs.take (p + 1))) t = look (puts st.env (ms.take (posOf ord i)) (xs.take (posOf ord i))) t := fun t ht => by
          cases hwr : Rel.writer ops 0 t with
          | none => rw [canon_none hp hc (fun w hw => by rw [hwr] at hw; cases hw), canon_none hp hc (fun w hw => by rw [hwr] at hw; cases hw)]
          | some w =>
            have hpw : w ∈ Rel.preds o := by
              unfold agn at hagn
              have := List.all_eq_true.1 hagn t ht
              simp only [hwr] at this
              simpa using this
            have hlt' := hp.preds i o w ho hpw
            obtain ⟨z, hz⟩ : ∃ z, xs[posOf ord w]? = some z := ⟨_, List.getElem?_eq_getElem (by rw [tr.len, hlen]; have := (hp.pos i hil).1; omega)⟩
            rw [canon_some hp hc hwr (by omega) hz, canon_some hp hc hwr hlt' hz]
        refine again_ok hst (againAll_get (hag p (by omega) (by omega)) hmem) (fun z hz => ?_) (wants_congr fun t b hg => ?_) (fun d hd => ?_)
        · cases z with
          | tmp t =>
            refine hslot t ?_
            unfold Oper.looksAt
            rw [hcm.op] at hz
            exact List.mem_append_left _ (List.mem_filterMap.2 ⟨_, hz, rfl⟩)
          | _ => rfl
        · refine hslot t ?_
          unfold Oper.looksAt
          rcases hcm.guard with ⟨-, h2⟩ | ⟨g, b', t', h1, h3, h2⟩
          · rw [hg] at h2; cases h2
          · rw [hg] at h2
            simp only [Option.some.injEq, Prod.mk.injEq] at h2
            obtain ⟨rfl, rfl⟩ := h2
            refine List.mem_append_right _ ?_
            rw [h1]
            have : (ops.toArray[g]?).bind (·.dst) = some t := by simpa using h3
            simp only [this, Option.toList_some, List.mem_singleton]
        · have hod : o.dst = some d := by rw [← hcm.dst]; exact hd
          exact canon_some hp hc (hp.dst i o d ho hod).2 (by omega) hx
end
end Go.Proofs.YtijpomemobgddaaGreatDoor.Ev
namespace Go.Proofs.YtijpomemobgddaaGreatDoor.Ev
open Go Go.RowKit
variable {P : Program} {T : Tb}
section
variable {q : OrcQ} {ov : Orc} {r : Option Nat} {n nt : Nat} {ops : List Oper}

theorem drawn_start {k : Nat} {ord : List Nat} {ms : List MOp} {xs : List A} {Hs : Nat → Heap} {st : St} {a : Act} {c0 : Cfg} (hp : Plan ops a.tmps.size ord k) (tr : Trace T q ov k ms st xs Hs) (ok : Ok T.gl c0) (hH : c0.H = st.H) :
    Drawn T ops ord k xs Hs a c0 (Array.replicate ops.length false) a c0 k := by
  have no : ∀ (i : Nat) (o : Oper), ops[i]? = some o → (Array.replicate ops.length false).getD i true = true → False := fun i o ho hl => by
    have := Rel.lt_of_get ho
    simp [this] at hl
  refine ⟨To.refl _, ok, rfl, rfl, by simp, fun i o ho hl => (no i o ho hl).elim, by rw [hH, tr.low k (Nat.le_refl _)], Nat.le_refl _, hp.kle, fun i o ho _ hk => ⟨fun hl => (no i o ho hl).elim, fun h => by omega⟩, fun i o ho ha hlt => ?_,
    fun i o d ho hl => (no i o ho hl).elim, fun i o d t ho hl => (no i o ho hl).elim, fun i j o o' d d' ho ho' hl => (no i o ho hl).elim, fun t _ => rfl⟩
  have := (hp.al i o ho ha).1
  omega

theorem draw2_ok (hm : P.follows .mixedOrders = true) (hT : TOk P T) (hQ : QOk T P q) (hO : OOk T P ov) {id k : Nat} {ord : List Nat} {ms : List MOp} {st st' : St} {a : Act} {c : Cfg} {Q : Exit → Act → World → Prop} (hc : cmpOrd nt ops ord = some ms) (hf : fine2 ops nt ord k = true)
    {xs : List A} {Hs : Nat → Heap} (tr : Trace T q ov k ms st xs Hs) (hst' : st' = ⟨puts st.env ms xs, Hs ms.length⟩) (hag : ∀ p, k ≤ p → p < ms.length → againAll T ⟨puts st.env (ms.take (p + 1)) (xs.take (p + 1)), Hs (p + 1)⟩ ((againAt ops ord k p).filterMap fun j => ms[posOf ord j]?) = true)
    (hH : c.H = st.H) (ok : Ok T.gl c) (he : EnvR c st.env a) (hs : a.tmps.size = nt)
    (hK : ∀ a' c', c'.H = st'.H → To c c' → Ok T.gl c' → EnvR c' st'.env a' → a'.tmps.size = nt → a'.defers = a.defers → Q .normal a' c'.w) : (Code.region id ops.toArray true).wpIn (Wd r) n P Q a c.w := by
  subst hs
  have hp := plan_of hf
  obtain ⟨hml, hmg⟩ := cmpOrd_get hc
  have hlen : ms.length = ops.length := hml.trans hp.len
  subst hst'
  obtain ⟨hto0, ok0⟩ := ok.grow (Rel.Grow.drew c.w)
  have he0 := he.to hto0 ok
  refine wpIn_region_any hm ?_
  generalize hc0 : (⟨c.ρ, c.own, c.H, c.w.drew⟩ : Cfg) = c0 at hto0 ok0 he0
  have done : ∀ (listed : Array Bool) (a' : Act) (c1 : Cfg) (m : Nat), Drawn T ops ord k xs Hs a c0 listed a' c1 m → (∀ j, listed.getD j true = true) → Q .normal a' c1.w := by
    intro listed a' c1 m D hall
    have hmle := D.ml
    have side : ∀ (p i : Nat) o, m ≤ p → p < m + (ops.length - m) → ord[p]? = some i → ops[i]? = some o → isMem o = false ∧ (isAl o = true → listed.getD i true = true) := fun p i o hp1 hp2 hi ho => by
      refine ⟨?_, fun _ => hall i⟩
      cases hme : isMem o with
      | false => rfl
      | true =>
        exfalso
        obtain ⟨i', h1, -, h3⟩ := hp.at_ p (by omega)
        rw [hi] at h1
        obtain rfl := Option.some.inj h1
        have := (D.mem i o ho hme (by have := D.km; omega)).1 (hall i)
        omega
    obtain ⟨c2, e2, g2⟩ := D.upto hp hc tr (ops.length - m) m c1 (by omega) side
    · rw [show m + (ops.length - m) = ops.length by omega] at g2
      rw [← e2]
      refine hK a' c2 (by rw [g2.heap, hlen]) (hto0.trans g2.to) g2.ok (fun t z hz => ?_) g2.size g2.defers
      have e1 : ms = ms.take ops.length := by rw [List.take_of_length_le (by omega)]
      have e3 : xs = xs.take ops.length := by rw [List.take_of_length_le (by rw [tr.len]; omega)]
      simp only at hz
      rw [e1, e3] at hz
      cases hw : Rel.writer ops 0 t with
      | none =>
        rw [canon_none hp hc (fun w hw' => by rw [hw] at hw'; cases hw')] at hz
        rw [g2.rest t fun j oj hj hd => absurd hd (Rel.writer_none hw oj (List.mem_of_getElem? hj))]
        exact (he0 t z hz).to g2.to ok0
      | some w =>
        obtain ⟨-, ow, how, hdw⟩ := Rel.writer_some hw
        have how' : ops[w]? = some ow := by simpa using how
        have hpw := (hp.pos w (Rel.lt_of_get how')).1
        obtain ⟨x, h1, h2⟩ := g2.vals w ow t how' (hall w) hdw fun _ => hpw
        rw [canon_some hp hc hw hpw h1] at hz
        obtain rfl := Option.some.inj hz
        exact h2
  have main : ∀ (fuel : Nat) (listed : Array Bool) (a' : Act) (c1 : Cfg) (m : Nat), listed.toList.count false ≤ fuel → Drawn T ops ord k xs Hs a c0 listed a' c1 m →
      (m = k ∨ ∃ (i : Nat) (o : Oper), ops[i]? = some o ∧ isMem o = true ∧ k ≤ posOf ord i ∧ listed.getD i true = true) → wpAnyIn (Wd r) n P .any ops.toArray Q fuel listed a' c1.w := by
    intro fuel
    induction fuel with
    | zero =>
      intro listed a' c1 m hcnt D _
      exact ⟨Rel.count_zero hcnt, done listed a' c1 m D (Rel.ready_nil D.lsize hp.ancs (Rel.count_zero hcnt))⟩
    | succ fuel ih =>
      intro listed a' c1 m hcnt D hb
      refine ⟨fun hr => done listed a' c1 m D (Rel.ready_nil D.lsize hp.ancs hr), fun i hi => ?_⟩
      obtain ⟨hl, o, ho, hpr⟩ := Rel.ready_spec.1 hi
      have hcs := Rel.count_set hl
      have hil := Rel.lt_of_get ho
      obtain ⟨hpl, hpo⟩ := hp.pos i hil
      obtain ⟨o1, mm, ho1, hmm, hcm⟩ := hmg _ _ hpo
      obtain rfl := Option.some.inj (ho.symm.trans ho1)
      have hbk : m = k ∨ (∃ (j : Nat) (oj : Oper), ops[j]? = some oj ∧ isMem oj = true ∧ k ≤ posOf ord j ∧ (listed.setIfInBounds i true).getD j true = true) := hb.imp (fun h => h) fun ⟨j, oj, h1, h2, h3, h4⟩ => ⟨j, oj, h1, h2, h3, Rel.getD_set_keeps h4⟩
      have anl : ∀ j, anc (Rel.masks ops []) i j = true → listed.getD j true = true := Rel.anc_listed hp.ancs D.closed i o ho fun p hpm => Rel.getD_mono (hpr p hpm)
      cases hal : isAl o with
      | true =>
        obtain ⟨t, d, hop, hgd, hd⟩ := isAl_spec hal
        have hkp := (hp.al i o ho hal).1
        obtain ⟨x, hx, hst⟩ := tr.tail _ _ hkp hmm
        have hmg' : mm.guard = none := by
          rcases hcm.guard with ⟨-, h2⟩ | ⟨g, b, t', h1, -, -⟩
          · exact h2
          · rw [hgd] at h1; cases h1
        obtain ⟨ty, hty, -, -⟩ := stepA_alloc (by rw [hcm.op]; exact hop) hmg' hst
        obtain ⟨c2, hrun, w1, -, w3, w4, w5⟩ := early_new hT D.ok (a := a') hty hop
        refine Rel.wpOpIn_ok (G := fun _ _ => True) (R := fun v w'' => v = .pointer (some ⟨c1.w.heap.size, 0, none⟩) ∧ w'' = c2.w) (Wd.fn r) (Wd.depth r) ho trivial ?_ ?_
        · rw [if_pos (by simp [Region.wanted, hgd]), Oper.semAt_eq _ _ _ hcm.defer, hrun]
          exact ⟨trivial, rfl, rfl⟩
        · rintro v w'' - ⟨rfl, rfl⟩
          refine ih _ _ c2 m (by omega) (D.step hp hi ho w3 w4 (by rw [w1, D.heap]) (.inl ⟨rfl, fun hme => ?_⟩) (fun hh => ?_) (fun t' _ hop' => ?_)) hbk
          · rw [al_not_mem hal] at hme; cases hme
          · rw [hal] at hh; cases hh
          · rw [hop] at hop'
            obtain rfl := Op.alloc.inj hop'
            exact ⟨_, rfl, Nat.le_refl _, D.to.size, w5.own, w5.off, w5.lies⟩
      | false =>
        have noal : ∀ (c3 : Cfg) (v : Value) (t' : TypeId), isAl o = true → o.op = .alloc t' → ∃ g, v = .pointer (some ⟨g, 0, none⟩) ∧ c1.w.heap.size ≤ g ∧ Early T c0.w.heap.size c3 t' g := fun c3 v t' hh => by rw [hal] at hh; cases hh
        by_cases hfree : pureOp o.op = true ∨ posOf ord i < k
        · have hslot := fun t (ht : t ∈ o.looksAt ops.toArray) z hz => D.slot hp hc ok0 he0 hi ho (fun hme hk => by
            rcases hfree with h1 | h1
            · simp [isMem, h1] at hme
            · omega) ht (z := z) hz
          have hx : ∃ x, xs[posOf ord i]? = some x ∧ stepF T q ⟨puts st.env (ms.take (posOf ord i)) (xs.take (posOf ord i)), c1.H⟩ mm = some x := by
            by_cases hpu : pureOp o.op = true
            · have hpu' : pureOp mm.op = true := by rw [hcm.op]; exact hpu
              rcases Nat.lt_or_ge (posOf ord i) k with hk | hk
              · obtain ⟨x, h1, h2⟩ := tr.free _ _ hk hmm
                refine ⟨x, h1, ?_⟩
                unfold stepF at h2 ⊢
                simp only [pure_free hpu'] at h2 ⊢
                rw [pure_heap hpu' c1.H st.H]
                exact h2
              · obtain ⟨x, h1, h2⟩ := tr.tail _ _ hk hmm
                refine ⟨x, h1, ?_⟩
                unfold stepA at h2
                unfold stepF
                simp only [pure_free hpu', pure_any hpu'] at h2 ⊢
                rw [pure_heap hpu' c1.H (Hs (posOf ord i))]
                cases hw : wants (puts st.env (ms.take (posOf ord i)) (xs.take (posOf ord i))) mm.guard with
                | none => simp [hw] at h2
                | some b =>
                  cases b with
                  | false =>
                    simp only [hw, Option.some.injEq, Prod.mk.injEq] at h2
                    simp only [h2.1]
                  | true =>
                    simp only [hw] at h2 ⊢
                    cases hq : quietOp T (puts st.env (ms.take (posOf ord i)) (xs.take (posOf ord i))) (Hs (posOf ord i)) mm.op with
                    | none => simp [hq] at h2
                    | some y =>
                      simp only [hq, Option.map_some, Option.some.injEq, Prod.mk.injEq] at h2
                      rw [h2.1]
            · have hk : posOf ord i < k := hfree.resolve_left hpu
              have hme : isMem o = true := by simp [isMem, hpu, hal]
              obtain ⟨x, h1, h2⟩ := tr.free _ _ hk hmm
              refine ⟨x, h1, ?_⟩
              rw [D.heap]
              exact D.low hp hc tr hag ho hl hme hk hmm h1 h2 m D.km (Nat.le_refl _)
          obtain ⟨x, hx, hst⟩ := hx
          refine Rel.wpOpIn_ok (G := Grow) (R := fun v w' => R c1.ρ c1.own w' x v) (Wd.fn r) (Wd.depth r) ho (Rel.Grow.refl _) ?_ fun v w'' hG hR => ?_
          · unfold stepF at hst
            cases hwt : wants (puts st.env (ms.take (posOf ord i)) (xs.take (posOf ord i))) mm.guard with
            | none => simp [hwt] at hst
            | some b =>
              have hwant := wants_ok (c := c1) (a := a') hcm (fun t z hgt hz => by
                obtain ⟨g, b', g1, ht'⟩ := hgt
                refine hslot t ?_ z hz
                unfold Oper.looksAt
                rw [g1]
                refine List.mem_append_right _ ?_
                have : (ops.toArray[g]?).bind (·.dst) = some t := by simpa using ht'
                simp only [this, Option.toList_some, List.mem_singleton]) hwt
              rw [hwant]
              cases b with
              | false =>
                simp only [hwt, Option.some.injEq] at hst
                subst hst
                simp only [Bool.false_eq_true, if_false, R]
              | true =>
                simp only [hwt] at hst
                simp only [if_true]
                refine free_ok hT hQ (c := c1) D.ok (st := ⟨puts st.env (ms.take (posOf ord i)) (xs.take (posOf ord i)), c1.H⟩) rfl ?_ hcm.defer (by rw [← hcm.op]; exact hst)
                intro t z hz
                rw [look_keepE] at hz
                split at hz
                · rename_i hts
                  refine hslot t ?_ z hz
                  unfold Oper.looksAt
                  exact List.mem_append_left _ hts
                · cases hz
          · obtain ⟨ht2, ok2⟩ := D.ok.grow hG
            refine ih _ _ ⟨c1.ρ, c1.own, c1.H, w''⟩ m (by omega) (D.step hp hi ho ht2 ok2 D.heap (.inl ⟨rfl, fun hme => ?_⟩) (fun _ => ⟨x, hx, hR⟩) (noal _ _)) hbk
            rcases hfree with h1 | h1
            · simp [isMem, h1] at hme
            · exact h1
        · have hpu : ¬ pureOp o.op = true := fun h1 => hfree (.inl h1)
          have hk : k ≤ posOf ord i := by
            rcases Nat.lt_or_ge (posOf ord i) k with h1 | h1
            · exact absurd (.inr h1) hfree
            · exact h1
          have hme : isMem o = true := by simp [isMem, hpu, hal]
          have hmp : m ≤ posOf ord i := by
            rcases Nat.lt_or_ge (posOf ord i) m with h1 | h1
            · have := (D.mem i o ho hme hk).2 h1
              rw [hl] at this
              cases this
            · exact h1
          obtain ⟨c2, e2, D2⟩ := D.upto hp hc tr (posOf ord i - m) m c1 (by omega) (fun p j oj hp1 hp2 hj hoj => by
            obtain ⟨j', h1, -, h3⟩ := hp.at_ p (by omega)
            rw [hj] at h1
            obtain rfl := Option.some.inj h1
            have hkm := D.km
            refine ⟨?_, fun aj => ?_⟩
            · cases mj : isMem oj with
              | false => rfl
              | true =>
                exfalso
                have h4 := anl j ((hp.mem i j o oj ho hoj hme mj hk (by omega)).resolve_right fun h => by omega)
                have := (D.mem j oj hoj mj (by omega)).1 h4
                omega
            · obtain ⟨-, u, ou, hou, mu, hju, hanc, hfirst, -⟩ := hp.al j oj hoj aj
              have h4 := hfirst i o ho hme (by omega)
              rcases Nat.lt_or_ge (posOf ord u) (posOf ord i) with h5 | h5
              · exfalso
                have h6 := anl u ((hp.mem i u o ou ho hou hme mu hk h5).resolve_right fun h => by omega)
                have := (D.mem u ou hou mu (by omega)).1 h6
                omega
              · obtain rfl := hp.inj (Rel.lt_of_get hou) hil (by omega)
                exact anl j hanc)
          rw [show m + (posOf ord i - m) = posOf ord i by omega] at D2
          rw [← e2] at noal ⊢
          have hslot := fun t (ht : t ∈ o.looksAt ops.toArray) z hz => D2.slot hp hc ok0 he0 hi ho (fun _ _ => rfl) ht (z := z) hz
          obtain ⟨x, hx, hst⟩ := tr.tail _ _ hk hmm
          have hb2 : posOf ord i + 1 = k ∨ (∃ (j : Nat) (oj : Oper), ops[j]? = some oj ∧ isMem oj = true ∧ k ≤ posOf ord j ∧ (listed.setIfInBounds i true).getD j true = true) := .inr ⟨i, o, ho, hme, hk, by simp [Array.getD_eq_getD_getElem?, Rel.size_of_getD hl]⟩
          unfold stepA at hst
          cases hwt : wants (puts st.env (ms.take (posOf ord i)) (xs.take (posOf ord i))) mm.guard with
          | none => simp [hwt] at hst
          | some b =>
            have hwant := wants_ok (c := c2) (a := a') hcm (fun t z hgt hz => by
              obtain ⟨g, b', g1, ht'⟩ := hgt
              refine hslot t ?_ z hz
              unfold Oper.looksAt
              rw [g1]
              refine List.mem_append_right _ ?_
              have : (ops.toArray[g]?).bind (·.dst) = some t := by simpa using ht'
              simp only [this, Option.toList_some, List.mem_singleton]) hwt
            unfold wpOpIn
            have ho' : ops.toArray[i]? = some o := by simpa using ho
            simp only [ho', hwant]
            cases b with
            | false =>
              simp only [hwt, Option.some.injEq, Prod.mk.injEq] at hst
              simp only [Bool.false_eq_true, if_false]
              refine ⟨fun f _ => Wd.fn r f, ih _ _ c2 (posOf ord i + 1) (by omega) (D2.step hp hi ho (To.refl _) D2.ok (by rw [D2.heap, hst.2]) (.inr ⟨rfl, rfl, hme⟩) (fun _ => ⟨x, hx, by rw [← hst.1, R]⟩) (noal _ _)) hb2⟩
            | true =>
              simp only [hwt] at hst
              simp only [if_true]
              rw [any_congr (agree_keep _ _), hcm.op] at hst
              refine any_ok hT hO D2.ok (st := ⟨_, _⟩) D2.heap (fun t z hz => ?_) hcm.defer hst fun y c3 k1 k2 k3 k4 => ih _ _ c3 (posOf ord i + 1) (by omega) (D2.step hp hi ho k2 k3 k1 (.inr ⟨rfl, rfl, hme⟩) (fun _ => ⟨x, hx, k4⟩) (noal _ _)) hb2
              simp only at hz
              rw [look_keepE] at hz
              split at hz
              · rename_i hts
                refine hslot t ?_ z hz
                unfold Oper.looksAt
                exact List.mem_append_left _ hts
              · cases hz
  have := main _ _ a c0 k (Rel.count_start ops.length) (drawn_start hp tr ok0 (by rw [← hc0]; exact hH)) (.inl rfl)
  rw [← hc0] at this
  simpa using this
end
end Go.Proofs.YtijpomemobgddaaGreatDoor.Ev
