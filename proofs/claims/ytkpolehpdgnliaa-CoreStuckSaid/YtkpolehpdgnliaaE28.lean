/- A drawn region under way: the canonical heap goes on past new blocks; what an operation looks at is known. -/
import Derived.Test.YtkpolehpdgnliaaE27
import Derived.Test.YtkpolehpdgnliaaE30
set_option linter.unusedSimpArgs false
set_option linter.unusedVariables false
namespace Go.Proofs.Ytkpolehpdgnliaa.Ev
open Go Go.RowKit
variable {P : Program} {T : Tb}
section
variable {q : OrcQ} {ov : Orc} {ops : List Oper} {ord : List Nat} {k m : Nat} {ms : List MOp} {xs : List A} {Hs : Nat → Heap} {st : St} {a a' : Act} {c0 c : Cfg} {listed : Array Bool}

theorem stepA_pure {e : Env} {H H' : Heap} {mm : MOp} {x : A} (hpu : pureOp mm.op = true) (h : stepA T ov ⟨e, H⟩ mm = some (x, H')) : H' = H := by
  unfold stepA at h
  simp only at h
  cases hw : wants e mm.guard with
  | none => simp [hw] at h
  | some b =>
    cases b with
    | false =>
      simp only [hw, Option.some.injEq, Prod.mk.injEq] at h
      exact h.2.symm
    | true =>
      simp only [hw, pure_any hpu] at h
      cases hq : quietOp T e H mm.op with
      | none => simp [hq] at h
      | some y =>
        simp only [hq, Option.map_some, Option.some.injEq, Prod.mk.injEq] at h
        exact h.2.symm
theorem stepA_alloc {e : Env} {H H' : Heap} {mm : MOp} {x : A} {t : TypeId} (ho : mm.op = .alloc t) (hg : mm.guard = none) (h : stepA T ov ⟨e, H⟩ mm = some (x, H')) : ∃ ty, T t = some ty ∧ x = .ptr H.length 0 ∧ H' = H ++ [some ⟨t, ty.zero.map .v, true⟩] := by
  unfold stepA at h
  simp only [hg, wants, ho, anyOp, calls, loudOp] at h
  cases ht : T t with
  | none => simp [ht, quietOp] at h
  | some ty =>
    simp only [ht, Option.some.injEq, Prod.mk.injEq] at h
    exact ⟨ty, rfl, h.1.symm, h.2.symm⟩

theorem Drawn.advance (hp : Plan ops a.tmps.size ord k) (hc : cmpOrd a.tmps.size ops ord = some ms) (tr : Trace T q ov k ms st xs Hs) (h : Drawn T ops ord k xs Hs a c0 listed a' c m) {i : Nat} {o : Oper} (hi : ord[m]? = some i) (ho : ops[i]? = some o) (hme : isMem o = false) (hal : isAl o = true → listed.getD i true = true) :
    ∃ c', c'.w = c.w ∧ Drawn T ops ord k xs Hs a c0 listed a' c' (m + 1) := by
  have hml : m < ops.length := by rw [← hp.len]; exact Rel.lt_of_get hi
  have hpi : posOf ord i = m := by
    obtain ⟨i', h1, -, h3⟩ := hp.at_ m hml
    rw [hi] at h1
    obtain rfl := Option.some.inj h1
    exact h3
  have hpe : ∀ (j : Nat) (oj : Oper), ops[j]? = some oj → posOf ord j = m → j = i := fun j oj hj he => hp.inj (Rel.lt_of_get hj) (Rel.lt_of_get ho) (he.trans hpi.symm)
  obtain ⟨o1, mm, ho1, hmm, hcm⟩ := (cmpOrd_get hc).2 m i hi
  obtain rfl := Option.some.inj (ho.symm.trans ho1)
  obtain ⟨x, hx, hst⟩ := tr.tail m mm h.km hmm
  have hmemlt : ∀ (j : Nat) oj, ops[j]? = some oj → isMem oj = true → (posOf ord j < m ↔ posOf ord j < m + 1) := fun j oj hj mj => by
    constructor
    · omega
    · intro h1
      rcases Nat.lt_or_ge (posOf ord j) m with h2 | h2
      · exact h2
      · obtain rfl := hpe j oj hj (by omega)
        obtain rfl := Option.some.inj (ho.symm.trans hj)
        rw [hme] at mj
        cases mj
  cases ha : isAl o with
  | false =>
    have hpu := pure_of hme ha
    have hH : Hs (m + 1) = Hs m := stepA_pure (by rw [hcm.op]; exact hpu) hst
    have hallt : ∀ (j : Nat) oj, ops[j]? = some oj → isAl oj = true → posOf ord j < m + 1 → posOf ord j < m := fun j oj hj aj h1 => by
      rcases Nat.lt_or_ge (posOf ord j) m with h2 | h2
      · exact h2
      · obtain rfl := hpe j oj hj (by omega)
        obtain rfl := Option.some.inj (ho.symm.trans hj)
        rw [ha] at aj
        cases aj
    exact ⟨c, rfl, h.to, h.ok, h.size, h.defers, h.lsize, h.closed, by rw [hH]; exact h.heap, by have := h.km; omega, hml, fun j oj hj mj hk => (h.mem j oj hj mj hk).trans (hmemlt j oj hj mj), fun j oj hj aj hlt => h.al j oj hj aj (hallt j oj hj aj hlt),
      fun j oj d hj hlj hd hpj => h.vals j oj d hj hlj hd fun aj => hallt j oj hj aj (hpj aj), fun j oj d t hj hlj hd aj hop hmp => h.early j oj d t hj hlj hd aj hop (by omega),
      fun j j' oj oj' d d' hj hj' hlj hlj' hd hd' aj aj' h1 h2 he => h.apart j j' oj oj' d d' hj hj' hlj hlj' hd hd' aj aj' (by omega) (by omega) he, h.rest⟩
  | true =>
    obtain ⟨t, d, hop, hgd, hd⟩ := isAl_spec ha
    have hmg : mm.guard = none := by
      rcases hcm.guard with ⟨-, h2⟩ | ⟨g, b, t', h1, -, -⟩
      · exact h2
      · rw [hgd] at h1; cases h1
    obtain ⟨ty, hty, rfl, hH⟩ := stepA_alloc (by rw [hcm.op]; exact hop) hmg hst
    obtain ⟨g, hg, hE⟩ := h.early i o d t ho (hal ha) hd ha hop (by omega)
    obtain ⟨c', w1, w2, w3, w4, w5, w6, w7, w8, w9⟩ := early_add h.ok hE hty
    have hel : ∀ {t' : TypeId} {g' : Nat}, Early T c0.w.heap.size c t' g' → g' ≠ g → Early T c0.w.heap.size c' t' g' := fun hE' hne => by
      obtain ⟨ty', cur, k1, k2, k3⟩ := hE'.lies
      exact ⟨hE'.new, by rw [w2]; exact hE'.own, fun hi => (w8 _ hi).elim hE'.off hne, ty', cur, k1, by rw [w1]; exact k2, k3⟩
    refine ⟨c', w1, w9 c0 hE.new h.to, w5, h.size, h.defers, h.lsize, h.closed, by rw [w3, hH, h.heap], by have := h.km; omega, hml, fun j oj hj mj hk => (h.mem j oj hj mj hk).trans (hmemlt j oj hj mj), fun j oj hj aj hlt => ?_,
      fun j oj d' hj hlj hd' hpj => ?_, fun j oj d' t' hj hlj hd' aj hop' hmp => ?_, fun j j' oj oj' d d' hj hj' hlj hlj' hd hd' aj aj' h1 h2 he => h.apart j j' oj oj' d d' hj hj' hlj hlj' hd hd' aj aj' (by omega) (by omega) he, h.rest⟩
    · rcases Nat.lt_or_ge (posOf ord j) m with h2 | h2
      · exact h.al j oj hj aj h2
      · obtain rfl := hpe j oj hj (by omega)
        exact hal ha
    · by_cases hji : j = i
      · subst hji
        obtain rfl := Option.some.inj (ho.symm.trans hj)
        obtain rfl := Option.some.inj (hd.symm.trans hd')
        refine ⟨_, by rw [hpi]; exact hx, ?_⟩
        rw [R, hg, ← h.heap]
        obtain ⟨ty', cur, -, k2, -⟩ := hE.lies
        exact ⟨g, w7, rfl, cur, t, by rw [w1]; exact k2⟩
      · obtain ⟨y, k1, k2⟩ := h.vals j oj d' hj hlj hd' fun aj => by
          have := hpj aj
          rcases Nat.lt_or_ge (posOf ord j) m with h2 | h2
          · exact h2
          · exact absurd (hpe j oj hj (by omega)) hji
        exact ⟨y, k1, R.keep w6 _ _ k2⟩
    · obtain ⟨g', k1, k2⟩ := h.early j oj d' t' hj hlj hd' aj hop' (by omega)
      refine ⟨g', k1, hel k2 fun hgg => ?_⟩
      subst hgg
      have := h.apart j i oj o d' d hj ho hlj (hal ha) hd' hd aj ha (by omega) (by omega) (k1.trans hg.symm)
      subst this
      omega

/-- On to a later place, where there is nothing but new blocks that have come up, and operations of no effect, between. -/
theorem Drawn.upto (hp : Plan ops a.tmps.size ord k) (hc : cmpOrd a.tmps.size ops ord = some ms) (tr : Trace T q ov k ms st xs Hs) : ∀ (d m : Nat) (c : Cfg), Drawn T ops ord k xs Hs a c0 listed a' c m → m + d ≤ ops.length →
    (∀ (p i : Nat) o, m ≤ p → p < m + d → ord[p]? = some i → ops[i]? = some o → isMem o = false ∧ (isAl o = true → listed.getD i true = true)) → ∃ c', c'.w = c.w ∧ Drawn T ops ord k xs Hs a c0 listed a' c' (m + d)
  | 0, m, c, h, _, _ => ⟨c, rfl, h⟩
  | d + 1, m, c, h, hl, hall => by
    obtain ⟨i, h1, h2, -⟩ := hp.at_ m (by omega)
    have ho : ops[i]? = some ops[i] := List.getElem?_eq_getElem h2
    obtain ⟨h3, h4⟩ := hall m i _ (Nat.le_refl _) (by omega) h1 ho
    obtain ⟨c1, e1, g1⟩ := h.advance hp hc tr h1 ho h3 h4
    obtain ⟨c2, e2, g2⟩ := Drawn.upto hp hc tr d (m + 1) c1 g1 (by omega) fun p j oj hp1 hp2 hj hoj => hall p j oj (by omega) (by omega) hj hoj
    exact ⟨c2, e2.trans e1, by rw [show m + (d + 1) = m + 1 + d by omega]; exact g2⟩

/-- What an operation that may come up looks at, is known. -/
theorem Drawn.slot (hp : Plan ops a.tmps.size ord k) (hc : cmpOrd a.tmps.size ops ord = some ms) (h : Drawn T ops ord k xs Hs a c0 listed a' c m) (ok0 : Ok T.gl c0) (he : EnvR c0 st.env a) {i : Nat} {o : Oper} (hi : i ∈ Region.ready .any ops.toArray listed) (ho : ops[i]? = some o)
    (hm : isMem o = true → k ≤ posOf ord i → m = posOf ord i) {t : Tmp} (ht : t ∈ o.looksAt ops.toArray) {z : A} (hz : look (puts st.env (ms.take (posOf ord i)) (xs.take (posOf ord i))) t = some z) : R c.ρ c.own c.w z (a'.tmps.getD t undef) := by
  obtain ⟨hl, o1, ho1, hpr⟩ := Rel.ready_spec.1 hi
  obtain rfl := Option.some.inj (ho.symm.trans ho1)
  have old : (∀ w, Rel.writer ops 0 t = some w → posOf ord i ≤ posOf ord w) → (∀ (j : Nat) oj, ops[j]? = some oj → oj.dst = some t → listed.getD j true = false) → R c.ρ c.own c.w z (a'.tmps.getD t undef) := fun h1 h2 => by
    rw [canon_none hp hc h1] at hz
    rw [h.rest t h2]
    exact (he t z hz).to h.to ok0
  cases hw : Rel.writer ops 0 t with
  | none => exact old (fun w h1 => by rw [hw] at h1; cases h1) fun j oj hj hd => absurd hd (Rel.writer_none hw oj (List.mem_of_getElem? hj))
  | some w =>
    obtain ⟨-, ow, how, hdw⟩ := Rel.writer_some hw
    have how' : ops[w]? = some ow := by simpa using how
    rcases hp.looks i o t w ho ht hw with hpw | han
    · have hlw := Rel.getD_mono (hpr w hpw)
      obtain ⟨x, h1, h2⟩ := h.vals w ow t how' hlw hdw fun aw => by
        obtain ⟨hkw, u, ou, hou, mu, hwu, hanc, hfirst, hread⟩ := hp.al w ow how' aw
        rcases hread i o t ho hpw ht hw with rfl | hau
        · obtain rfl := Option.some.inj (ho.symm.trans hou)
          have := hm mu (by omega)
          omega
        · have hlu := Rel.anc_listed hp.ancs h.closed i o ho (fun p hpm => Rel.getD_mono (hpr p hpm)) u hau
          have := (h.mem u ou hou mu (by omega)).1 hlu
          omega
      rw [canon_some hp hc hw (hp.preds i o w ho hpw) h1] at hz
      obtain rfl := Option.some.inj hz
      exact h2
    · have hwl := Rel.lt_of_get how'
      have hpos := (hp.anc_pos w i hwl han).2
      refine old (fun w' h1 => ?_) fun j oj hj hd => ?_
      · rw [hw] at h1
        obtain rfl := Option.some.inj h1
        omega
      · have h1 := (hp.dst j oj t hj hd).2
        rw [hw] at h1
        obtain rfl := Option.some.inj h1
        cases hlj : listed.getD w true with
        | false => rfl
        | true =>
          have := Rel.anc_listed hp.ancs h.closed w ow how' (fun p hpm => h.closed w ow how' hlj p hpm) i han
          rw [hl] at this
          cases this

/-- While an operation that may come up in any order is still to come, only blocks of the region's own have been written. -/
theorem Drawn.low_mono (hp : Plan ops a.tmps.size ord k) (hc : cmpOrd a.tmps.size ops ord = some ms) (tr : Trace T q ov k ms st xs Hs) (h : Drawn T ops ord k xs Hs a c0 listed a' c m) {i : Nat} {o : Oper} (ho : ops[i]? = some o) (hl : listed.getD i true = false) (hme : isMem o = true) (hk : posOf ord i < k) :
    ∀ p, k ≤ p → p ≤ m → HLe (Hs k) (Hs p) ∧ (Hs k).length ≤ (Hs p).length := by
  intro p
  induction p using Nat.strongRecOn with
  | ind p ih =>
    intro hkp hpm
    rcases Nat.eq_or_lt_of_le hkp with rfl | hlt
    · exact ⟨HLe.refl _, Nat.le_refl _⟩
    · obtain ⟨p, rfl⟩ : ∃ p', p = p' + 1 := ⟨p - 1, by omega⟩
      obtain ⟨ih1, ih2⟩ := ih p (by omega) (by omega) (by omega)
      have hml := h.ml
      obtain ⟨j, hj1, hj2, hj3⟩ := hp.at_ p (by omega)
      obtain ⟨oj, mm, hoj, hmm, hcm⟩ := (cmpOrd_get hc).2 p j hj1
      obtain ⟨x, hx, hst⟩ := tr.tail p mm (by omega) hmm
      by_cases hpu : pureOp mm.op = true
      · rw [stepA_pure hpu hst]
        exact ⟨ih1, ih2⟩
      · cases hal : isAl oj with
        | true =>
          obtain ⟨t, d, hop, hgd, hd⟩ := isAl_spec hal
          have hmg : mm.guard = none := by
            rcases hcm.guard with ⟨-, h2⟩ | ⟨g, b, t', h1, -, -⟩
            · exact h2
            · rw [hgd] at h1; cases h1
          obtain ⟨ty, hty, rfl, hH⟩ := stepA_alloc (by rw [hcm.op]; exact hop) hmg hst
          rw [hH]
          exact ⟨ih1.trans (HLe.app _ _), by simp; omega⟩
        | false =>
          have hmj : isMem oj = true := by
            rw [hcm.op] at hpu
            simp [isMem, hpu, hal]
          have hlj : listed.getD j true = true := (h.mem j oj hoj hmj (by omega)).2 (by omega)
          rcases hp.mem j i oj o hoj ho hmj hme (by omega) (by omega) with han | ⟨-, hns⟩
          · exfalso
            have := Rel.anc_listed hp.ancs h.closed j oj hoj (fun q hq => h.closed j oj hoj hlj q hq) i han
            rw [hl] at this
            cases this
          · unfold newSt at hns
            split at hns
            · rename_i t z v hop
              split at hns
              · rename_i ja hwr
                rw [Bool.and_eq_true] at hns
                obtain ⟨hns1, hns2⟩ := hns
                obtain ⟨-, oa, hoa, hda⟩ := Rel.writer_some hwr
                have hoa' : ops[ja]? = some oa := by simpa using hoa
                have haa : isAl oa = true := by simpa [opA, hoa'] using hns1
                have hpa : posOf ord ja < p := by
                  have := hp.preds j oj ja hoj (by simpa using hns2)
                  omega
                obtain ⟨hka, -⟩ := hp.al ja oa hoa' haa
                obtain ⟨hpal, hpao⟩ := hp.pos ja (Rel.lt_of_get hoa')
                obtain ⟨oa2, ma, hoa2, hma, hcma⟩ := (cmpOrd_get hc).2 _ _ hpao
                obtain rfl := Option.some.inj (hoa'.symm.trans hoa2)
                obtain ⟨xa, hxa, hsta⟩ := tr.tail _ ma hka hma
                obtain ⟨ta, da, hopa, hgda, hdda⟩ := isAl_spec haa
                have hmga : ma.guard = none := by
                  rcases hcma.guard with ⟨-, h2⟩ | ⟨g, b, t', h1, -, -⟩
                  · exact h2
                  · rw [hgda] at h1; cases h1
                obtain ⟨tya, -, rfl, -⟩ := stepA_alloc (by rw [hcma.op]; exact hopa) hmga hsta
                have hlook := canon_some (e := st.env) hp hc hwr hpa hxa
                obtain ⟨-, ih3⟩ := ih (posOf ord ja) (by omega) hka (by omega)
                unfold stepA at hst
                simp only at hst
                cases hw : wants (puts st.env (ms.take p) (xs.take p)) mm.guard with
                | none => simp [hw] at hst
                | some b =>
                  cases b with
                  | false =>
                    simp only [hw, Option.some.injEq, Prod.mk.injEq] at hst
                    rw [← hst.2]
                    exact ⟨ih1, ih2⟩
                  | true =>
                    simp only [hw, hcm.op, hop, anyOp, calls] at hst
                    cases hq : loudOp T (puts st.env (ms.take p) (xs.take p)) (Hs p) (.store t (.tmp z) v) with
                    | none => simp [hq, quietOp] at hst
                    | some xH =>
                      obtain ⟨x1, H1⟩ := xH
                      simp only [hq, Option.some.injEq, Prod.mk.injEq] at hst
                      rw [← hst.2]
                      simp only [loudOp, opnd, hlook] at hq
                      split at hq
                      · cases ‹some (A.ptr _ _) = some _›
                        split at hq
                        · split at hq
                          · simp only [Option.some.injEq, Prod.mk.injEq] at hq
                            rw [← hq.2]
                            exact ⟨HLe.set ih1 ih3 _, by simpa using ih2⟩
                          · cases hq
                        · cases hq
                      · cases hq
              · cases hns
            · cases hns
end
end Go.Proofs.Ytkpolehpdgnliaa.Ev
