/- Regions that draw their order, in general: whatever order is drawn, the evaluator's answers are the model's. -/
import Derived.Test.YtkpolehpdgnliaaE28
set_option linter.unusedSimpArgs false
set_option linter.unusedVariables false
namespace Go.Proofs.Ytkpolehpdgnliaa.Ev
open Go Go.RowKit
variable {P : Program} {T : Tb}
section
variable {q : OrcQ} {ov : Orc} {r : Option Nat} {n nt : Nat} {ops : List Oper}

theorem drawn_start {k : Nat} {ord : List Nat} {ms : List MOp} {xs : List A} {Hs : Nat → Heap} {st : St} {a : Act} {c0 : Cfg} (hp : Plan ops a.tmps.size ord k) (tr : Trace T q ov k ms st xs Hs) (ok : Ok T.gl c0) (hH : c0.H = st.H) :
    Drawn T ops ord k xs Hs a c0 (Array.replicate ops.length false) a c0 k := by
  have no : ∀ (i : Nat) (o : Oper), ops[i]? = some o → (Array.replicate ops.length false).getD i true = true → False := fun i o ho hl => by
    have := Rel.lt_of_get ho
    simp [this] at hl
  refine ⟨To.refl _, ok, rfl, rfl, by simp, fun i o ho hl => (no i o ho hl).elim, by rw [hH, tr.low k (Nat.le_refl _)], Nat.le_refl _, hp.kle, fun i o ho _ hk => ⟨fun hl => (no i o ho hl).elim, fun h => by omega⟩, fun i o ho ha hlt => ?_,
    fun i o d ho hl => (no i o ho hl).elim, fun i o d t ho hl => (no i o ho hl).elim, fun i j o o' d d' ho ho' hl => (no i o ho hl).elim, fun t _ => rfl⟩
  have := (hp.al i o ho ha).1
  omega

theorem draw2_ok (hm : P.follows .mixedOrders = true) (hT : TOk P T) (hQ : QOk T P q) (hO : OOk T P ov) {id k : Nat} {ord : List Nat} {ms : List MOp} {st st' : St} {a : Act} {c : Cfg} {Q : Exit → Act → World → Prop} (hc : cmpOrd nt ops ord = some ms) (hf : fine2 ops nt ord k = true) (h : runOps T q ov k ms st = some st')
    (hH : c.H = st.H) (ok : Ok T.gl c) (he : EnvR c st.env a) (hs : a.tmps.size = nt)
    (hK : ∀ a' c', c'.H = st'.H → To c c' → Ok T.gl c' → EnvR c' st'.env a' → a'.tmps.size = nt → a'.defers = a.defers → Q .normal a' c'.w) : (Code.region id ops.toArray true).wpIn (Wd r) n P Q a c.w := by
  subst hs
  have hp := plan_of hf
  obtain ⟨hml, hmg⟩ := cmpOrd_get hc
  have hlen : ms.length = ops.length := hml.trans hp.len
  obtain ⟨xs, Hs, tr, rfl⟩ := trace_of (by rw [hlen]; exact hp.kle) h
  obtain ⟨hto0, ok0⟩ := ok.grow (Rel.Grow.drew c.w)
  have he0 := he.to hto0 ok
  refine wpIn_region_any hm ?_
  generalize hc0 : (⟨c.ρ, c.own, c.H, c.w.drew⟩ : Cfg) = c0 at hto0 ok0 he0
  have done : ∀ (listed : Array Bool) (a' : Act) (c1 : Cfg) (m : Nat), Drawn T ops ord k xs Hs a c0 listed a' c1 m → (∀ j, listed.getD j true = true) → Q .normal a' c1.w := by
    intro listed a' c1 m D hall
    have hmle := D.ml
    have side : ∀ (p i : Nat) o, m ≤ p → p < m + (ops.length - m) → ord[p]? = some i → ops[i]? = some o → isMem o = false ∧ (isAl o = true → listed.getD i true = true) := fun p i o hp1 hp2 hi ho => by
      refine ⟨?_, fun _ => hall i⟩
      cases hme : isMem o with
      | false => rfl
      | true =>
        exfalso
        obtain ⟨i', h1, -, h3⟩ := hp.at_ p (by omega)
        rw [hi] at h1
        obtain rfl := Option.some.inj h1
        have := (D.mem i o ho hme (by have := D.km; omega)).1 (hall i)
        omega
    obtain ⟨c2, e2, g2⟩ := D.upto hp hc tr (ops.length - m) m c1 (by omega) side
    · rw [show m + (ops.length - m) = ops.length by omega] at g2
      rw [← e2]
      refine hK a' c2 (by rw [g2.heap, hlen]) (hto0.trans g2.to) g2.ok (fun t z hz => ?_) g2.size g2.defers
      have e1 : ms = ms.take ops.length := by rw [List.take_of_length_le (by omega)]
      have e3 : xs = xs.take ops.length := by rw [List.take_of_length_le (by rw [tr.len]; omega)]
      simp only at hz
      rw [e1, e3] at hz
      cases hw : Rel.writer ops 0 t with
      | none =>
        rw [canon_none hp hc (fun w hw' => by rw [hw] at hw'; cases hw')] at hz
        rw [g2.rest t fun j oj hj hd => absurd hd (Rel.writer_none hw oj (List.mem_of_getElem? hj))]
        exact (he0 t z hz).to g2.to ok0
      | some w =>
        obtain ⟨-, ow, how, hdw⟩ := Rel.writer_some hw
        have how' : ops[w]? = some ow := by simpa using how
        have hpw := (hp.pos w (Rel.lt_of_get how')).1
        obtain ⟨x, h1, h2⟩ := g2.vals w ow t how' (hall w) hdw fun _ => hpw
        rw [canon_some hp hc hw hpw h1] at hz
        obtain rfl := Option.some.inj hz
        exact h2
  have main : ∀ (fuel : Nat) (listed : Array Bool) (a' : Act) (c1 : Cfg) (m : Nat), listed.toList.count false ≤ fuel → Drawn T ops ord k xs Hs a c0 listed a' c1 m →
      (m = k ∨ ∃ (i : Nat) (o : Oper), ops[i]? = some o ∧ isMem o = true ∧ k ≤ posOf ord i ∧ listed.getD i true = true) → wpAnyIn (Wd r) n P .any ops.toArray Q fuel listed a' c1.w := by
    intro fuel
    induction fuel with
    | zero =>
      intro listed a' c1 m hcnt D _
      exact ⟨Rel.count_zero hcnt, done listed a' c1 m D (Rel.ready_nil D.lsize hp.ancs (Rel.count_zero hcnt))⟩
    | succ fuel ih =>
      intro listed a' c1 m hcnt D hb
      refine ⟨fun hr => done listed a' c1 m D (Rel.ready_nil D.lsize hp.ancs hr), fun i hi => ?_⟩
      obtain ⟨hl, o, ho, hpr⟩ := Rel.ready_spec.1 hi
      have hcs := Rel.count_set hl
      have hil := Rel.lt_of_get ho
      obtain ⟨hpl, hpo⟩ := hp.pos i hil
      obtain ⟨o1, mm, ho1, hmm, hcm⟩ := hmg _ _ hpo
      obtain rfl := Option.some.inj (ho.symm.trans ho1)
      have hbk : m = k ∨ (∃ (j : Nat) (oj : Oper), ops[j]? = some oj ∧ isMem oj = true ∧ k ≤ posOf ord j ∧ (listed.setIfInBounds i true).getD j true = true) := hb.imp (fun h => h) fun ⟨j, oj, h1, h2, h3, h4⟩ => ⟨j, oj, h1, h2, h3, Rel.getD_set_keeps h4⟩
      have anl : ∀ j, anc (Rel.masks ops []) i j = true → listed.getD j true = true := Rel.anc_listed hp.ancs D.closed i o ho fun p hpm => Rel.getD_mono (hpr p hpm)
      cases hal : isAl o with
      | true =>
        obtain ⟨t, d, hop, hgd, hd⟩ := isAl_spec hal
        have hkp := (hp.al i o ho hal).1
        obtain ⟨x, hx, hst⟩ := tr.tail _ _ hkp hmm
        have hmg' : mm.guard = none := by
          rcases hcm.guard with ⟨-, h2⟩ | ⟨g, b, t', h1, -, -⟩
          · exact h2
          · rw [hgd] at h1; cases h1
        obtain ⟨ty, hty, -, -⟩ := stepA_alloc (by rw [hcm.op]; exact hop) hmg' hst
        obtain ⟨c2, hrun, w1, -, w3, w4, w5⟩ := early_new hT D.ok (a := a') hty hop
        refine Rel.wpOpIn_ok (G := fun _ _ => True) (R := fun v w'' => v = .pointer (some ⟨c1.w.heap.size, 0, none⟩) ∧ w'' = c2.w) (Wd.fn r) (Wd.depth r) ho trivial ?_ ?_
        · rw [if_pos (by simp [Region.wanted, hgd]), Oper.semAt_eq _ _ _ hcm.defer, hrun]
          exact ⟨trivial, rfl, rfl⟩
        · rintro v w'' - ⟨rfl, rfl⟩
          refine ih _ _ c2 m (by omega) (D.step hp hi ho w3 w4 (by rw [w1, D.heap]) (.inl ⟨rfl, fun hme => ?_⟩) (fun hh => ?_) (fun t' _ hop' => ?_)) hbk
          · rw [al_not_mem hal] at hme; cases hme
          · rw [hal] at hh; cases hh
          · rw [hop] at hop'
            obtain rfl := Op.alloc.inj hop'
            exact ⟨_, rfl, Nat.le_refl _, D.to.size, w5.own, w5.off, w5.lies⟩
      | false =>
        have noal : ∀ (c3 : Cfg) (v : Value) (t' : TypeId), isAl o = true → o.op = .alloc t' → ∃ g, v = .pointer (some ⟨g, 0, none⟩) ∧ c1.w.heap.size ≤ g ∧ Early T c0.w.heap.size c3 t' g := fun c3 v t' hh => by rw [hal] at hh; cases hh
        by_cases hfree : pureOp o.op = true ∨ posOf ord i < k
        · have hslot := fun t (ht : t ∈ o.looksAt ops.toArray) z hz => D.slot hp hc ok0 he0 hi ho (fun hme hk => by
            rcases hfree with h1 | h1
            · simp [isMem, h1] at hme
            · omega) ht (z := z) hz
          have hx : ∃ x, xs[posOf ord i]? = some x ∧ stepF T q ⟨puts st.env (ms.take (posOf ord i)) (xs.take (posOf ord i)), c1.H⟩ mm = some x := by
            by_cases hpu : pureOp o.op = true
            · have hpu' : pureOp mm.op = true := by rw [hcm.op]; exact hpu
              rcases Nat.lt_or_ge (posOf ord i) k with hk | hk
              · obtain ⟨x, h1, h2⟩ := tr.free _ _ hk hmm
                refine ⟨x, h1, ?_⟩
                unfold stepF at h2 ⊢
                simp only [pure_free hpu'] at h2 ⊢
                rw [pure_heap hpu' c1.H st.H]
                exact h2
              · obtain ⟨x, h1, h2⟩ := tr.tail _ _ hk hmm
                refine ⟨x, h1, ?_⟩
                unfold stepA at h2
                unfold stepF
                simp only [pure_free hpu', pure_any hpu'] at h2 ⊢
                rw [pure_heap hpu' c1.H (Hs (posOf ord i))]
                cases hw : wants (puts st.env (ms.take (posOf ord i)) (xs.take (posOf ord i))) mm.guard with
                | none => simp [hw] at h2
                | some b =>
                  cases b with
                  | false =>
                    simp only [hw, Option.some.injEq, Prod.mk.injEq] at h2
                    simp only [h2.1]
                  | true =>
                    simp only [hw] at h2 ⊢
                    cases hq : quietOp T (puts st.env (ms.take (posOf ord i)) (xs.take (posOf ord i))) (Hs (posOf ord i)) mm.op with
                    | none => simp [hq] at h2
                    | some y =>
                      simp only [hq, Option.map_some, Option.some.injEq, Prod.mk.injEq] at h2
                      rw [h2.1]
            · have hk : posOf ord i < k := hfree.resolve_left hpu
              have hme : isMem o = true := by simp [isMem, hpu, hal]
              obtain ⟨x, h1, h2⟩ := tr.free _ _ hk hmm
              refine ⟨x, h1, ?_⟩
              rw [D.heap]
              have hlow := (D.low_mono hp hc tr ho hl hme hk m D.km (Nat.le_refl _)).1
              rw [tr.low k (Nat.le_refl _)] at hlow
              exact stepF_mono hlow h2
          obtain ⟨x, hx, hst⟩ := hx
          refine Rel.wpOpIn_ok (G := Grow) (R := fun v w' => R c1.ρ c1.own w' x v) (Wd.fn r) (Wd.depth r) ho (Rel.Grow.refl _) ?_ fun v w'' hG hR => ?_
          · unfold stepF at hst
            cases hwt : wants (puts st.env (ms.take (posOf ord i)) (xs.take (posOf ord i))) mm.guard with
            | none => simp [hwt] at hst
            | some b =>
              have hwant := wants_ok (c := c1) (a := a') hcm (fun t z hgt hz => by
                obtain ⟨g, b', g1, ht'⟩ := hgt
                refine hslot t ?_ z hz
                unfold Oper.looksAt
                rw [g1]
                refine List.mem_append_right _ ?_
                have : (ops.toArray[g]?).bind (·.dst) = some t := by simpa using ht'
                simp only [this, Option.toList_some, List.mem_singleton]) hwt
              rw [hwant]
              cases b with
              | false =>
                simp only [hwt, Option.some.injEq] at hst
                subst hst
                simp only [Bool.false_eq_true, if_false, R]
              | true =>
                simp only [hwt] at hst
                simp only [if_true]
                refine free_ok hT hQ (c := c1) D.ok (st := ⟨puts st.env (ms.take (posOf ord i)) (xs.take (posOf ord i)), c1.H⟩) rfl ?_ hcm.defer (by rw [← hcm.op]; exact hst)
                intro t z hz
                rw [look_keepE] at hz
                split at hz
                · rename_i hts
                  refine hslot t ?_ z hz
                  unfold Oper.looksAt
                  exact List.mem_append_left _ hts
                · cases hz
          · obtain ⟨ht2, ok2⟩ := D.ok.grow hG
            refine ih _ _ ⟨c1.ρ, c1.own, c1.H, w''⟩ m (by omega) (D.step hp hi ho ht2 ok2 D.heap (.inl ⟨rfl, fun hme => ?_⟩) (fun _ => ⟨x, hx, hR⟩) (noal _ _)) hbk
            rcases hfree with h1 | h1
            · simp [isMem, h1] at hme
            · exact h1
        · have hpu : ¬ pureOp o.op = true := fun h1 => hfree (.inl h1)
          have hk : k ≤ posOf ord i := by
            rcases Nat.lt_or_ge (posOf ord i) k with h1 | h1
            · exact absurd (.inr h1) hfree
            · exact h1
          have hme : isMem o = true := by simp [isMem, hpu, hal]
          have hmp : m ≤ posOf ord i := by
            rcases Nat.lt_or_ge (posOf ord i) m with h1 | h1
            · have := (D.mem i o ho hme hk).2 h1
              rw [hl] at this
              cases this
            · exact h1
          obtain ⟨c2, e2, D2⟩ := D.upto hp hc tr (posOf ord i - m) m c1 (by omega) (fun p j oj hp1 hp2 hj hoj => by
            obtain ⟨j', h1, -, h3⟩ := hp.at_ p (by omega)
            rw [hj] at h1
            obtain rfl := Option.some.inj h1
            have hkm := D.km
            refine ⟨?_, fun aj => ?_⟩
            · cases mj : isMem oj with
              | false => rfl
              | true =>
                exfalso
                have h4 := anl j ((hp.mem i j o oj ho hoj hme mj hk (by omega)).resolve_right (by omega))
                have := (D.mem j oj hoj mj (by omega)).1 h4
                omega
            · obtain ⟨-, u, ou, hou, mu, hju, hanc, hfirst, -⟩ := hp.al j oj hoj aj
              have h4 := hfirst i o ho hme (by omega)
              rcases Nat.lt_or_ge (posOf ord u) (posOf ord i) with h5 | h5
              · exfalso
                have h6 := anl u ((hp.mem i u o ou ho hou hme mu hk h5).resolve_right (by omega))
                have := (D.mem u ou hou mu (by omega)).1 h6
                omega
              · obtain rfl := hp.inj (Rel.lt_of_get hou) hil (by omega)
                exact anl j hanc)
          rw [show m + (posOf ord i - m) = posOf ord i by omega] at D2
          rw [← e2] at noal ⊢
          have hslot := fun t (ht : t ∈ o.looksAt ops.toArray) z hz => D2.slot hp hc ok0 he0 hi ho (fun _ _ => rfl) ht (z := z) hz
          obtain ⟨x, hx, hst⟩ := tr.tail _ _ hk hmm
          have hb2 : posOf ord i + 1 = k ∨ (∃ (j : Nat) (oj : Oper), ops[j]? = some oj ∧ isMem oj = true ∧ k ≤ posOf ord j ∧ (listed.setIfInBounds i true).getD j true = true) := .inr ⟨i, o, ho, hme, hk, by simp [Array.getD_eq_getD_getElem?, Rel.size_of_getD hl]⟩
          unfold stepA at hst
          cases hwt : wants (puts st.env (ms.take (posOf ord i)) (xs.take (posOf ord i))) mm.guard with
          | none => simp [hwt] at hst
          | some b =>
            have hwant := wants_ok (c := c2) (a := a') hcm (fun t z hgt hz => by
              obtain ⟨g, b', g1, ht'⟩ := hgt
              refine hslot t ?_ z hz
              unfold Oper.looksAt
              rw [g1]
              refine List.mem_append_right _ ?_
              have : (ops.toArray[g]?).bind (·.dst) = some t := by simpa using ht'
              simp only [this, Option.toList_some, List.mem_singleton]) hwt
            unfold wpOpIn
            have ho' : ops.toArray[i]? = some o := by simpa using ho
            simp only [ho', hwant]
            cases b with
            | false =>
              simp only [hwt, Option.some.injEq, Prod.mk.injEq] at hst
              simp only [Bool.false_eq_true, if_false]
              refine ⟨fun f _ => Wd.fn r f, ih _ _ c2 (posOf ord i + 1) (by omega) (D2.step hp hi ho (To.refl _) D2.ok (by rw [D2.heap, hst.2]) (.inr ⟨rfl, rfl, hme⟩) (fun _ => ⟨x, hx, by rw [← hst.1, R]⟩) (noal _ _)) hb2⟩
            | true =>
              simp only [hwt] at hst
              simp only [if_true]
              rw [any_congr (agree_keep _ _), hcm.op] at hst
              refine any_ok hT hO D2.ok (st := ⟨_, _⟩) D2.heap (fun t z hz => ?_) hcm.defer hst fun y c3 k1 k2 k3 k4 => ih _ _ c3 (posOf ord i + 1) (by omega) (D2.step hp hi ho k2 k3 k1 (.inr ⟨rfl, rfl, hme⟩) (fun _ => ⟨x, hx, k4⟩) (noal _ _)) hb2
              simp only at hz
              rw [look_keepE] at hz
              split at hz
              · rename_i hts
                refine hslot t ?_ z hz
                unfold Oper.looksAt
                exact List.mem_append_left _ hts
              · cases hz
  have := main _ _ a c0 k (Rel.count_start ops.length) (drawn_start hp tr ok0 (by rw [← hc0]; exact hH)) (.inl rfl)
  rw [← hc0] at this
  simpa using this
end
end Go.Proofs.Ytkpolehpdgnliaa.Ev
