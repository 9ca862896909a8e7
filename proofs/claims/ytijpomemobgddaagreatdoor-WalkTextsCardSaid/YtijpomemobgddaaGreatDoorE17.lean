/- Regions that draw their order: their first operations come up in any order, and the evaluator's answers are the model's. -/
import Derived.Test.YtijpomemobgddaaGreatDoorE15
import Derived.LoopNIn
set_option linter.unusedSimpArgs false
set_option linter.unusedVariables false
namespace Go.Proofs.YtijpomemobgddaaGreatDoor.Ev
open Go Go.RowKit
variable {P : Program} {T : Tb}

def stepF (T : Tb) (q : OrcQ) (st : St) (m : MOp) : Option A :=
  match wants st.env m.guard with
  | none => none
  | some false => some (.v undef)
  | some true => freeOp T q st m.op
def puts (e : Env) : List MOp → List A → Env
  | m :: ms, x :: xs => puts (put e m.dst x) ms xs
  | _, _ => e

theorem puts_snoc : ∀ (ms : List MOp) (xs : List A) (e : Env) (m : MOp) (x : A), xs.length = ms.length → puts e (ms ++ [m]) (xs ++ [x]) = put (puts e ms xs) m.dst x
  | [], [], e, m, x, _ => rfl
  | [], _ :: _, _, _, _, h => by simp at h
  | _ :: _, [], _, _, _, h => by simp at h
  | m0 :: ms, x0 :: xs, e, m, x, h => by
    simp only [List.cons_append, puts]
    exact puts_snoc ms xs _ m x (by simpa using h)

theorem free_split {q : OrcQ} {ov : Orc} : ∀ (ms : List MOp) (k : Nat) (st st' : St), k ≤ ms.length → runOps T q ov k ms st = some st' →
    ∃ xs : List A, xs.length = k ∧ runOps T q ov 0 (ms.drop k) ⟨puts st.env (ms.take k) xs, st.H⟩ = some st' ∧ ∀ (i : Nat) m, i < k → ms[i]? = some m → ∃ x, xs[i]? = some x ∧ stepF T q ⟨puts st.env (ms.take i) (xs.take i), st.H⟩ m = some x
  | ms, 0, st, st', _, h => ⟨[], rfl, by simpa [puts] using h, fun i m hi => by omega⟩
  | [], k + 1, st, st', hk, h => by simp at hk
  | m :: ms, k + 1, st, st', hk, h => by
    have hstep : ∃ x, stepF T q st m = some x ∧ runOps T q ov k ms ⟨put st.env m.dst x, st.H⟩ = some st' := by
      unfold runOps at h
      unfold stepF
      cases hw : wants st.env m.guard with
      | none => simp [hw] at h
      | some b =>
        cases b with
        | false =>
          simp only [hw, Nat.add_sub_cancel] at h
          exact ⟨_, rfl, h⟩
        | true =>
          simp only [hw] at h
          cases hf : freeOp T q st m.op with
          | none => simp [hf] at h
          | some x =>
            simp only [hf] at h
            exact ⟨x, rfl, h⟩
    obtain ⟨x, h1, h2⟩ := hstep
    obtain ⟨xs, h3, h4, h5⟩ := free_split ms k _ st' (by simpa using hk) h2
    refine ⟨x :: xs, by simp [h3], by simpa [puts] using h4, fun i m' hi hm => ?_⟩
    cases i with
    | zero =>
      simp at hm
      subst hm
      exact ⟨x, rfl, by simpa [puts] using h1⟩
    | succ i =>
      obtain ⟨z, h6, h7⟩ := h5 i m' (by omega) (by simpa using hm)
      exact ⟨z, by simpa using h6, by simpa [puts] using h7⟩

theorem look_put {e : Env} {d : Option Nat} {x : A} {t : Nat} : look (put e d x) t = if d = some t then some x else look e t := by
  cases d with
  | none => simp [put]
  | some d =>
    simp only [put, look, Option.some.injEq]
    by_cases h : d = t
    · subst h
      rw [show Nat.beq d d = true from Nat.beq_refl d]
      simp
    · have hb : Nat.beq d t = false := by
        cases hb : Nat.beq d t with
        | false => rfl
        | true => exact absurd (Nat.eq_of_beq_eq_true hb) h
      simp [hb, h]
theorem look_puts_not {t : Nat} : ∀ (ms : List MOp) (xs : List A) (e : Env), (∀ m ∈ ms, m.dst ≠ some t) → look (puts e ms xs) t = look e t
  | [], _, _, _ => by simp [puts]
  | _ :: _, [], _, _ => by simp [puts]
  | m :: ms, x :: xs, e, h => by
    simp only [puts]
    rw [look_puts_not ms xs _ (fun m' hm => h m' (.tail _ hm)), look_put, if_neg (h m (.head _))]
theorem look_puts_at {t : Nat} : ∀ (ms : List MOp) (xs : List A) (e : Env) (j : Nat) (m : MOp) (x : A), ms[j]? = some m → xs[j]? = some x → m.dst = some t → (∀ (i : Nat) m', ms[i]? = some m' → m'.dst = some t → i = j) → look (puts e ms xs) t = some x
  | [], _, _, j, m, x, h, _, _, _ => by simp at h
  | _ :: _, [], _, j, m, x, _, h, _, _ => by simp at h
  | m0 :: ms, x0 :: xs, e, j, m, x, hm, hx, hd, hu => by
    simp only [puts]
    cases j with
    | zero =>
      simp at hm hx
      subst hm hx
      rw [look_puts_not, look_put, if_pos hd]
      intro m' hm' hd'
      obtain ⟨i, hi⟩ := List.mem_iff_getElem?.1 hm'
      have := hu (i + 1) m' (by simpa using hi) hd'
      omega
    | succ j =>
      exact look_puts_at ms xs _ j m x (by simpa using hm) (by simpa using hx) hd fun i m' hi hd' => by
        have := hu (i + 1) m' (by simpa using hi) hd'
        omega

theorem forAllV_intro : ∀ {F : List (Value → World → Prop)} {w : World} {K : List Value → Prop}, (∀ vs : List Value, vs.length = F.length → (∀ (i : Nat) R v, F[i]? = some R → vs[i]? = some v → R v w) → K vs) → Rel.forAllV F w K
  | [], _, _, h => h [] rfl (fun i R v h => by simp at h)
  | R :: F, w, K, h => fun v hv => forAllV_intro fun vs hl hR => h (v :: vs) (by simp [hl]) fun i R' v' h1 h2 => by
    cases i with
    | zero =>
      simp at h1 h2
      subst h1 h2
      exact hv
    | succ i => exact hR i R' v' (by simpa using h1) (by simpa using h2)

theorem puts_env {c : Cfg} : ∀ (os : List Oper) (ms : List MOp) (xs : List A) (vs : List Value) (e : Env) (a : Act) (n : Nat), ms.length = os.length → xs.length = os.length → vs.length = os.length →
    (∀ (i : Nat) o m, os[i]? = some o → ms[i]? = some m → m.dst = o.dst ∧ ∀ t, o.dst = some t → t < n) → (∀ (i : Nat) x v, xs[i]? = some x → vs[i]? = some v → R c.ρ c.own c.w x v) → a.tmps.size = n → EnvR c e a →
    EnvR c (puts e ms xs) (Rel.putAll a os vs) ∧ (Rel.putAll a os vs).tmps.size = n ∧ (Rel.putAll a os vs).defers = a.defers
  | [], [], [], [], e, a, n, _, _, _, _, _, hs, he => ⟨he, hs, rfl⟩
  | o :: os, m :: ms, x :: xs, v :: vs, e, a, n, h1, h2, h3, h4, h5, hs, he => by
    obtain ⟨hd, hlt⟩ := h4 0 o m rfl rfl
    simp only [puts, Rel.putAll]
    rw [hd]
    have := puts_env os ms xs vs (put e o.dst x) (a.put o.dst v) n (by simpa using h1) (by simpa using h2) (by simpa using h3) (fun i o' m' ho hm => h4 (i + 1) o' m' (by simpa using ho) (by simpa using hm)) (fun i x' v' hx hv => h5 (i + 1) x' v' (by simpa using hx) (by simpa using hv)) (by rw [Rel.size_put, hs]) (he.put hs hlt (h5 0 x v rfl rfl))
    rw [Rel.defers_put] at this
    exact this
  | [], _ :: _, _, _, _, _, _, h, _, _, _, _, _, _ => by simp at h
  | [], [], _ :: _, _, _, _, _, _, h, _, _, _, _, _ => by simp at h
  | [], [], [], _ :: _, _, _, _, _, _, h, _, _, _, _ => by simp at h
  | _ :: _, [], _, _, _, _, _, h, _, _, _, _, _, _ => by simp at h
  | _ :: _, _ :: _, [], _, _, _, _, _, h, _, _, _, _, _ => by simp at h
  | _ :: _, _ :: _, _ :: _, [], _, _, _, _, _, h, _, _, _, _ => by simp at h

section
variable {q : OrcQ} {ov : Orc} {r : Option Nat} {n nt : Nat} {ops : List Oper} {o : Oper}
/-- An operation of the free part, wherever it comes up. -/
theorem free_ok (hT : TOk P T) (hQ : QOk T P q) {c : Cfg} (ok : Ok T.gl c) {st : St} (hH : c.H = st.H) {a : Act} (he : EnvR c (keepE st.env (slotsOf o.op)) a) {x : A} (hd : ∀ c, o.op ≠ .defer c) (h : freeOp T q st o.op = some x) :
    Rel.opOkIn (Wd r) n P Grow (fun v w' => R c.ρ c.own w' x v) c.w ((o.semAt (Wd r).round a.eval).run P c.w) := by
  rw [Oper.semAt_eq _ _ _ hd]
  have hag := agree_keep st.env o.op
  unfold freeOp at h
  cases hcs : calls st.env o.op with
  | some fa =>
    obtain ⟨f | b0, as⟩ := fa
    rotate_left
    · simp [hcs] at h
    simp only [hcs] at h
    cases hl : lendL st.H as with
    | none => simp [hl] at h
    | some as' =>
      simp only [hl] at h
      cases hq : q f as' with
      | none => simp [hq] at h
      | some rr =>
        simp only [hq] at h
        split at h
        · rename_i hsf
          obtain rfl := Option.some.inj h
          rw [calls_congr hag] at hcs
          obtain ⟨ys, h1, h2⟩ := calls_ok (P := P) he hcs
          rw [h2 c.w]
          rw [← hH] at hl
          rw [Bool.or_eq_true] at hsf
          rcases hQ f as' rr hq with hat | ⟨hen, hcall⟩
          · rcases hsf with hs | hfl
            · obtain ⟨v, k1, k2⟩ := hat [] c.own c.w ys (lend_shut as as' ys hl hs h1)
              rw [k1]
              exact ⟨Below.refl _ _, k2.open_⟩
            · obtain ⟨v, k1, k2⟩ := hat [] (fun g => c.own g ∧ ¬ img c.ρ c.H g) c.w ys (lend_ok ok (fun g hg => hg) as as' ys hl h1)
              rw [k1]
              exact ⟨Below.refl _ _, flat_ok rr v hfl k2⟩
          rw [hen]
          refine callsIn_Wd ?_
          rcases hsf with hs | hfl
          · refine (hcall c.own c.w ys ok.lt ok.glob (lend_shut as as' ys hl hs h1)).mono ?_
            rintro e w' ⟨v, rfl, hg, hv⟩
            exact ⟨v, rfl, hg, hv.open_⟩
          · refine (hcall (fun g => c.own g ∧ ¬ img c.ρ c.H g) c.w ys (fun g hg => ok.lt g hg.1) (ok.glob.less fun g h => h.1) (lend_ok ok (fun g hg => hg) as as' ys hl h1)).mono ?_
            rintro e w' ⟨v, rfl, hg, hv⟩
            exact ⟨v, rfl, hg, flat_ok rr v hfl hv⟩
        · cases h
  | none =>
    simp only [hcs] at h
    have viaQuiet : quietOp T st.env st.H o.op = some x → Rel.opOkIn (Wd r) n P Grow (fun v w' => R c.ρ c.own w' x v) c.w ((execOp a.eval o).run P c.w) := by
      intro hq
      rw [quiet_congr hag, ← hH] at hq
      obtain ⟨y, h1, h2⟩ := quiet_ok hT ok he hq
      rw [h1]
      exact ⟨Below.refl _ _, h2⟩
    cases hop : o.op <;> rw [hop] at h <;> simp only at h
    case buildSlice t len ps =>
      rw [hop] at he
      cases hlc : litCells T st.env t len ps with
      | none => simp [hlc] at h
      | some tc =>
        obtain ⟨el, sz, cs⟩ := tc
        simp only [hlc] at h
        split at h
        · rename_i hsc
          obtain rfl := Option.some.inj h
          simp only [Bool.and_eq_true] at hsc
          rw [lit_congr (by rw [hop] at hag; exact hag)] at hlc
          obtain ⟨xs, h1, h2, h3, h4, hrun⟩ := litCells_ok hT he hlc
          have hx : execOp a.eval o = (do pure (.value (← Instr.buildSlice t len (ps.map fun (i, x) => (i, a.eval x)))) : Sem Next) := by simp only [execOp, hop]
          rw [hx]
          simp only [Sem.run_bind, hrun, Result.andThen_ok, Sem.run_pure]
          refine ⟨(Below.refl _ _).alloc (Nat.le_refl _) _, ?_⟩
          simp only [R]
          by_cases h0 : len = 0
          · left
            subst h0
            have : cs = [] := by
              have := h1.length
              rw [h3] at this
              exact List.eq_nil_of_length_eq_zero (by simpa using this.symm)
            exact ⟨rfl, this, _, _, rfl⟩
          · right
            refine ⟨c.w.heap.size, 0, len, xs, rfl, Nat.le_refl _, by simp, fun ho => ?_, RL.keep (grow_keeps ((Below.refl _ _).alloc (Nat.le_refl _) _)) _ _ (shutL_ok cs xs hsc.1 h1), fun i x hx => ?_⟩
            · have := ok.lt _ ho
              omega
            · simp only [Nat.zero_add]
              rw [World.cell?_alloc_new]
              simpa using hx
        · cases h
    all_goals (rw [← hop] at h; exact viaQuiet h)
end
end Go.Proofs.YtijpomemobgddaaGreatDoor.Ev
namespace Go.Proofs.YtijpomemobgddaaGreatDoor.Ev
open Go Go.RowKit
variable {P : Program} {T : Tb}

section
variable {q : OrcQ} {ov : Orc} {r : Option Nat} {n nt : Nat} {ops : List Oper}
theorem draw_ok (hm : P.follows .mixedOrders = true) (hT : TOk P T) (hQ : QOk T P q) (hO : OOk T P ov) {id k : Nat} {ms : List MOp} {st st' : St} {a : Act} {c : Cfg} {Q : Exit → Act → World → Prop} (hc : cmpOps nt ops ops = some ms) (hf : Rel.fine ops nt k = true) (h : runOps T q ov k ms st = some st')
    (hH : c.H = st.H) (ok : Ok T.gl c) (he : EnvR c st.env a) (hs : a.tmps.size = nt)
    (hK : ∀ a' c', c'.H = st'.H → To c c' → Ok T.gl c' → EnvR c' st'.env a' → a'.tmps.size = nt → a'.defers = a.defers → Q .normal a' c'.w) : (Code.region id ops.toArray true).wpIn (Wd r) n P Q a c.w := by
  subst hs
  obtain ⟨hml, hmg⟩ := cmpOps_get hc
  have hk : k ≤ ops.length := Rel.fine_le hf
  obtain ⟨xs, hxl, hrest, hstep⟩ := free_split ms k st st' (by omega) h
  have hF : ∀ (j : Nat) x, xs[j]? = some x → ((xs.map fun x (v : Value) (w' : World) => R c.ρ c.own w' x v).getD j fun _ _ => True) = fun v w' => R c.ρ c.own w' x v := by
    intro j x hx
    simp [List.getD_eq_getElem?_getD, hx]
  have mget : ∀ (i : Nat) m, ms[i]? = some m → ∃ o, ops[i]? = some o ∧ CmpOk a.tmps.size ops o m := by
    intro i m hi
    have hlt : i < ops.length := by
      have := (List.getElem?_eq_some_iff.1 hi).1
      omega
    obtain ⟨m', h1, h2⟩ := hmg i _ (List.getElem?_eq_getElem hlt)
    rw [hi] at h1
    obtain rfl := Option.some.inj h1
    exact ⟨_, List.getElem?_eq_getElem hlt, h2⟩
  refine Rel.wpIn_region_rel (Wd.fn r) (Wd.depth r) k Grow (xs.map fun x v w' => R c.ρ c.own w' x v) hm hf (by simp [hxl]) Rel.Grow.refl Rel.Grow.trans (Rel.Grow.drew _) ?_ ?_ ?_
  · intro F hFm v w1 w2 h1 h2 hv
    obtain ⟨x, -, rfl⟩ := List.mem_map.1 hFm
    exact R.keep (grow_keeps h2) _ _ hv
  · intro i o hi ho a' w' hG hsz hfacts
    obtain ⟨m, hmi, hcm⟩ := hmg i o ho
    obtain ⟨x, hxi, hst⟩ := hstep i m hi hmi
    rw [hF i x hxi]
    obtain ⟨hto, ok'⟩ := ok.grow hG
    have slot : ∀ t ∈ o.looksAt ops.toArray, ∀ z, look (puts st.env (ms.take i) (xs.take i)) t = some z → R c.ρ c.own w' z (a'.tmps.getD t undef) := by
      intro t ht z hz
      have hpre := (Rel.fine_at hf ho hi).1 t ht
      have hsf := hfacts t hpre
      unfold Rel.slotFact at hsf
      cases hw : Rel.writer (ops.take k) 0 t with
      | some j =>
        rw [hw] at hsf
        have hjp := hpre j hw
        have hji := (Rel.ancOk_at (Rel.fine_anc hf) ho).1 j hjp
        obtain ⟨-, oj, hoj, hdj⟩ := Rel.writer_some hw
        obtain ⟨hoj', hjk⟩ := Rel.take_get (by simpa using hoj : (ops.take k)[j]? = some oj)
        obtain ⟨mj, hmj, hcj⟩ := hmg j oj hoj'
        obtain ⟨xj, hxj, -⟩ := hstep j mj hjk hmj
        simp only [hF j xj hxj] at hsf
        have hlook := look_puts_at (t := t) (ms.take i) (xs.take i) st.env j mj xj (by rw [List.getElem?_take_of_lt hji]; exact hmj) (by rw [List.getElem?_take_of_lt hji]; exact hxj) (by rw [hcj.dst]; exact hdj) (by
          intro i' m' hi' hd'
          have hlt : i' < i := by
            have := (List.getElem?_eq_some_iff.1 hi').1
            simp at this
            omega
          rw [List.getElem?_take_of_lt hlt] at hi'
          obtain ⟨o', ho', hc'⟩ := mget i' m' hi'
          rw [hc'.dst] at hd'
          obtain ⟨-, d, hd, -, hdw⟩ := Rel.fine_at hf ho' (by omega)
          obtain rfl := Option.some.inj (hd.symm.trans hd')
          rw [hw] at hdw
          exact (Option.some.inj hdw).symm)
        rw [hlook] at hz
        obtain rfl := Option.some.inj hz
        exact hsf
      | none =>
        rw [hw] at hsf
        simp only at hsf
        rw [look_puts_not] at hz
        · rw [hsf]
          exact R.keep (grow_keeps hG) _ _ (he t z hz)
        · intro m' hm' hd'
          obtain ⟨i', hi'⟩ := List.mem_iff_getElem?.1 hm'
          have hlt : i' < i := by
            have := (List.getElem?_eq_some_iff.1 hi').1
            simp at this
            omega
          rw [List.getElem?_take_of_lt hlt] at hi'
          obtain ⟨o', ho', hc'⟩ := mget i' m' hi'
          rw [hc'.dst] at hd'
          exact Rel.writer_none hw o' (List.mem_of_getElem? (by rw [List.getElem?_take_of_lt (by omega : i' < k)]; exact ho' : (ops.take k)[i']? = some o')) hd'
    unfold stepF at hst
    cases hwt : wants (puts st.env (ms.take i) (xs.take i)) m.guard with
    | none => simp [hwt] at hst
    | some b =>
      have hwant := wants_ok (c := ⟨c.ρ, c.own, c.H, w'⟩) (a := a') hcm (fun t z hgt hz => by
        obtain ⟨g, b', g1, ht'⟩ := hgt
        refine slot t ?_ z hz
        unfold Oper.looksAt
        rw [g1]
        refine List.mem_append_right _ ?_
        have : (ops.toArray[g]?).bind (·.dst) = some t := by simpa using ht'
        simp only [this, Option.toList_some, List.mem_singleton]) hwt
      rw [hwant]
      cases b with
      | false =>
        simp only [hwt, Option.some.injEq] at hst
        subst hst
        simp only [Bool.false_eq_true, if_false, R]
      | true =>
        simp only [hwt] at hst
        simp only [if_true]
        refine free_ok hT hQ (c := ⟨c.ρ, c.own, c.H, w'⟩) ok' (st := ⟨puts st.env (ms.take i) (xs.take i), st.H⟩) hH ?_ hcm.defer (by rw [← hcm.op]; exact hst)
        intro t z hz
        rw [look_keepE] at hz
        split at hz
        · rename_i hts
          refine slot t ?_ z hz
          unfold Oper.looksAt
          exact List.mem_append_left _ hts
        · cases hz
  · intro w' hG
    obtain ⟨hto, ok'⟩ := ok.grow hG
    refine forAllV_intro fun vs hvl hvR => ?_
    rw [List.length_map, hxl] at hvl
    have hval : ∀ (i : Nat) x v, xs[i]? = some x → vs[i]? = some v → R c.ρ c.own w' x v := by
      intro i x v hx hv
      have := hvR i (fun v w' => R c.ρ c.own w' x v) v (by simp [hx]) hv
      exact this
    have hlk : (ops.take k).length = k := by rw [List.length_take]; omega
    obtain ⟨he', hs', hd'⟩ := puts_env (c := ⟨c.ρ, c.own, c.H, w'⟩) (ops.take k) (ms.take k) xs vs st.env a a.tmps.size (by rw [List.length_take, List.length_take]; omega) (by omega) (by omega) (by
      intro i o m ho hmi
      have hlt : i < k := by
        have := (List.getElem?_eq_some_iff.1 ho).1
        omega
      rw [List.getElem?_take_of_lt hlt] at ho hmi
      obtain ⟨o', ho', hc'⟩ := mget i m hmi
      rw [ho] at ho'
      obtain rfl := Option.some.inj ho'
      exact ⟨hc'.dst, hc'.lt⟩) hval rfl (he.to hto ok)
    exact tail_ok (r := r) (n := n) hT hO (ops.drop k) (ms.drop k) _ st' _ ⟨c.ρ, c.own, c.H, w'⟩ (cmpOps_drop k hc) hrest hH ok' he' hs' fun a' c' k1 k2 k3 k4 k5 k6 => hK a' c' k1 (hto.trans k2) k3 k4 k5 (k6.trans hd')
end
end Go.Proofs.YtijpomemobgddaaGreatDoor.Ev
