/- Statements and calls: what the evaluator answers, the model answers. -/
import Derived.Test.YtkpolehpdgnliaaE17
import Derived.LoopNIn
set_option linter.unusedSimpArgs false
set_option linter.unusedVariables false
namespace Go.Proofs.Ytkpolehpdgnliaa.Ev
open Go Go.RowKit
variable {P : Program} {T : Tb}

section
variable {q : OrcQ} {ov : Orc} {r : Option Nat} {n nt : Nat} {ops : List Oper}
theorem draw_ok (hm : P.follows .mixedOrders = true) (hT : TOk P T) (hQ : QOk T P q) (hO : OOk T P ov) {id k : Nat} {ms : List MOp} {st st' : St} {a : Act} {c : Cfg} {Q : Exit → Act → World → Prop} (hc : cmpOps nt ops ops = some ms) (hf : Rel.fine ops nt k = true) (h : runOps T q ov k ms st = some st')
    (hH : c.H = st.H) (ok : Ok T.gl c) (he : EnvR c st.env a) (hs : a.tmps.size = nt)
    (hK : ∀ a' c', c'.H = st'.H → To c c' → Ok T.gl c' → EnvR c' st'.env a' → a'.tmps.size = nt → a'.defers = a.defers → Q .normal a' c'.w) : (Code.region id ops.toArray true).wpIn (Wd r) n P Q a c.w := by
  subst hs
  obtain ⟨hml, hmg⟩ := cmpOps_get hc
  have hk : k ≤ ops.length := Rel.fine_le hf
  obtain ⟨xs, hxl, hrest, hstep⟩ := free_split ms k st st' (by omega) h
  have hF : ∀ (j : Nat) x, xs[j]? = some x → ((xs.map fun x (v : Value) (w' : World) => R c.ρ c.own w' x v).getD j fun _ _ => True) = fun v w' => R c.ρ c.own w' x v := by
    intro j x hx
    simp [List.getD_eq_getElem?_getD, hx]
  have mget : ∀ (i : Nat) m, ms[i]? = some m → ∃ o, ops[i]? = some o ∧ CmpOk a.tmps.size ops o m := by
    intro i m hi
    have hlt : i < ops.length := by
      have := (List.getElem?_eq_some_iff.1 hi).1
      omega
    obtain ⟨m', h1, h2⟩ := hmg i _ (List.getElem?_eq_getElem hlt)
    rw [hi] at h1
    obtain rfl := Option.some.inj h1
    exact ⟨_, List.getElem?_eq_getElem hlt, h2⟩
  refine Rel.wpIn_region_rel (Wd.fn r) (Wd.depth r) k Grow (xs.map fun x v w' => R c.ρ c.own w' x v) hm hf (by simp [hxl]) Rel.Grow.refl Rel.Grow.trans (Rel.Grow.drew _) ?_ ?_ ?_
  · intro F hFm v w1 w2 h1 h2 hv
    obtain ⟨x, -, rfl⟩ := List.mem_map.1 hFm
    exact R.keep (grow_keeps h2) _ _ hv
  · intro i o hi ho a' w' hG hsz hfacts
    obtain ⟨m, hmi, hcm⟩ := hmg i o ho
    obtain ⟨x, hxi, hst⟩ := hstep i m hi hmi
    rw [hF i x hxi]
    obtain ⟨hto, ok'⟩ := ok.grow hG
    have slot : ∀ t ∈ o.looksAt ops.toArray, ∀ z, look (puts st.env (ms.take i) (xs.take i)) t = some z → R c.ρ c.own w' z (a'.tmps.getD t undef) := by
      intro t ht z hz
      have hpre := (Rel.fine_at hf ho hi).1 t ht
      have hsf := hfacts t hpre
      unfold Rel.slotFact at hsf
      cases hw : Rel.writer (ops.take k) 0 t with
      | some j =>
        rw [hw] at hsf
        have hjp := hpre j hw
        have hji := (Rel.ancOk_at (Rel.fine_anc hf) ho).1 j hjp
        obtain ⟨-, oj, hoj, hdj⟩ := Rel.writer_some hw
        obtain ⟨hoj', hjk⟩ := Rel.take_get (by simpa using hoj : (ops.take k)[j]? = some oj)
        obtain ⟨mj, hmj, hcj⟩ := hmg j oj hoj'
        obtain ⟨xj, hxj, -⟩ := hstep j mj hjk hmj
        simp only [hF j xj hxj] at hsf
        have hlook := look_puts_at (t := t) (ms.take i) (xs.take i) st.env j mj xj (by rw [List.getElem?_take_of_lt hji]; exact hmj) (by rw [List.getElem?_take_of_lt hji]; exact hxj) (by rw [hcj.dst]; exact hdj) (by
          intro i' m' hi' hd'
          have hlt : i' < i := by
            have := (List.getElem?_eq_some_iff.1 hi').1
            simp at this
            omega
          rw [List.getElem?_take_of_lt hlt] at hi'
          obtain ⟨o', ho', hc'⟩ := mget i' m' hi'
          rw [hc'.dst] at hd'
          obtain ⟨-, d, hd, -, hdw⟩ := Rel.fine_at hf ho' (by omega)
          obtain rfl := Option.some.inj (hd.symm.trans hd')
          rw [hw] at hdw
          exact (Option.some.inj hdw).symm)
        rw [hlook] at hz
        obtain rfl := Option.some.inj hz
        exact hsf
      | none =>
        rw [hw] at hsf
        simp only at hsf
        rw [look_puts_not] at hz
        · rw [hsf]
          exact R.keep (grow_keeps hG) _ _ (he t z hz)
        · intro m' hm' hd'
          obtain ⟨i', hi'⟩ := List.mem_iff_getElem?.1 hm'
          have hlt : i' < i := by
            have := (List.getElem?_eq_some_iff.1 hi').1
            simp at this
            omega
          rw [List.getElem?_take_of_lt hlt] at hi'
          obtain ⟨o', ho', hc'⟩ := mget i' m' hi'
          rw [hc'.dst] at hd'
          exact Rel.writer_none hw o' (List.mem_of_getElem? (by rw [List.getElem?_take_of_lt (by omega : i' < k)]; exact ho' : (ops.take k)[i']? = some o')) hd'
    unfold stepF at hst
    cases hwt : wants (puts st.env (ms.take i) (xs.take i)) m.guard with
    | none => simp [hwt] at hst
    | some b =>
      have hwant := wants_ok (c := ⟨c.ρ, c.own, c.H, w'⟩) (a := a') hcm (fun t z hgt hz => by
        obtain ⟨g, b', g1, ht'⟩ := hgt
        refine slot t ?_ z hz
        unfold Oper.looksAt
        rw [g1]
        refine List.mem_append_right _ ?_
        have : (ops.toArray[g]?).bind (·.dst) = some t := by simpa using ht'
        simp only [this, Option.toList_some, List.mem_singleton]) hwt
      rw [hwant]
      cases b with
      | false =>
        simp only [hwt, Option.some.injEq] at hst
        subst hst
        simp only [Bool.false_eq_true, if_false, R]
      | true =>
        simp only [hwt] at hst
        simp only [if_true]
        refine free_ok hT hQ (c := ⟨c.ρ, c.own, c.H, w'⟩) ok' (st := ⟨puts st.env (ms.take i) (xs.take i), st.H⟩) hH ?_ hcm.defer (by rw [← hcm.op]; exact hst)
        intro t z hz
        rw [look_keepE] at hz
        split at hz
        · rename_i hts
          refine slot t ?_ z hz
          unfold Oper.looksAt
          exact List.mem_append_left _ hts
        · cases hz
  · intro w' hG
    obtain ⟨hto, ok'⟩ := ok.grow hG
    refine forAllV_intro fun vs hvl hvR => ?_
    rw [List.length_map, hxl] at hvl
    have hval : ∀ (i : Nat) x v, xs[i]? = some x → vs[i]? = some v → R c.ρ c.own w' x v := by
      intro i x v hx hv
      have := hvR i (fun v w' => R c.ρ c.own w' x v) v (by simp [hx]) hv
      exact this
    have hlk : (ops.take k).length = k := by rw [List.length_take]; omega
    obtain ⟨he', hs', hd'⟩ := puts_env (c := ⟨c.ρ, c.own, c.H, w'⟩) (ops.take k) (ms.take k) xs vs st.env a a.tmps.size (by rw [List.length_take, List.length_take]; omega) (by omega) (by omega) (by
      intro i o m ho hmi
      have hlt : i < k := by
        have := (List.getElem?_eq_some_iff.1 ho).1
        omega
      rw [List.getElem?_take_of_lt hlt] at ho hmi
      obtain ⟨o', ho', hc'⟩ := mget i m hmi
      rw [ho] at ho'
      obtain rfl := Option.some.inj ho'
      exact ⟨hc'.dst, hc'.lt⟩) hval rfl (he.to hto ok)
    exact tail_ok (r := r) (n := n) hT hO (ops.drop k) (ms.drop k) _ st' _ ⟨c.ρ, c.own, c.H, w'⟩ (cmpOps_drop k hc) hrest hH ok' he' hs' fun a' c' k1 k2 k3 k4 k5 k6 => hK a' c' k1 (hto.trans k2) k3 k4 k5 (k6.trans hd')
end
end Go.Proofs.Ytkpolehpdgnliaa.Ev
