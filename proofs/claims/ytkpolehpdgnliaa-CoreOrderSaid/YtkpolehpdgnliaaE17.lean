/- Regions that draw their order: their first operations come up in any order, and the evaluator's answers are the model's. -/
import Derived.Test.YtkpolehpdgnliaaE15
set_option linter.unusedSimpArgs false
set_option linter.unusedVariables false
namespace Go.Proofs.Ytkpolehpdgnliaa.Ev
open Go Go.RowKit
variable {P : Program} {T : Tb}

def stepF (T : Tb) (q : OrcQ) (st : St) (m : MOp) : Option A :=
  match wants st.env m.guard with
  | none => none
  | some false => some (.v undef)
  | some true => freeOp T q st m.op
def puts (e : Env) : List MOp → List A → Env
  | m :: ms, x :: xs => puts (put e m.dst x) ms xs
  | _, _ => e

theorem puts_snoc : ∀ (ms : List MOp) (xs : List A) (e : Env) (m : MOp) (x : A), xs.length = ms.length → puts e (ms ++ [m]) (xs ++ [x]) = put (puts e ms xs) m.dst x
  | [], [], e, m, x, _ => rfl
  | [], _ :: _, _, _, _, h => by simp at h
  | _ :: _, [], _, _, _, h => by simp at h
  | m0 :: ms, x0 :: xs, e, m, x, h => by
    simp only [List.cons_append, puts]
    exact puts_snoc ms xs _ m x (by simpa using h)

theorem free_split {q : OrcQ} {ov : Orc} : ∀ (ms : List MOp) (k : Nat) (st st' : St), k ≤ ms.length → runOps T q ov k ms st = some st' →
    ∃ xs : List A, xs.length = k ∧ runOps T q ov 0 (ms.drop k) ⟨puts st.env (ms.take k) xs, st.H⟩ = some st' ∧ ∀ (i : Nat) m, i < k → ms[i]? = some m → ∃ x, xs[i]? = some x ∧ stepF T q ⟨puts st.env (ms.take i) (xs.take i), st.H⟩ m = some x
  | ms, 0, st, st', _, h => ⟨[], rfl, by simpa [puts] using h, fun i m hi => by omega⟩
  | [], k + 1, st, st', hk, h => by simp at hk
  | m :: ms, k + 1, st, st', hk, h => by
    have hstep : ∃ x, stepF T q st m = some x ∧ runOps T q ov k ms ⟨put st.env m.dst x, st.H⟩ = some st' := by
      unfold runOps at h
      unfold stepF
      cases hw : wants st.env m.guard with
      | none => simp [hw] at h
      | some b =>
        cases b with
        | false =>
          simp only [hw, Nat.add_sub_cancel] at h
          exact ⟨_, rfl, h⟩
        | true =>
          simp only [hw] at h
          cases hf : freeOp T q st m.op with
          | none => simp [hf] at h
          | some x =>
            simp only [hf] at h
            exact ⟨x, rfl, h⟩
    obtain ⟨x, h1, h2⟩ := hstep
    obtain ⟨xs, h3, h4, h5⟩ := free_split ms k _ st' (by simpa using hk) h2
    refine ⟨x :: xs, by simp [h3], by simpa [puts] using h4, fun i m' hi hm => ?_⟩
    cases i with
    | zero =>
      simp at hm
      subst hm
      exact ⟨x, rfl, by simpa [puts] using h1⟩
    | succ i =>
      obtain ⟨z, h6, h7⟩ := h5 i m' (by omega) (by simpa using hm)
      exact ⟨z, by simpa using h6, by simpa [puts] using h7⟩

theorem look_put {e : Env} {d : Option Nat} {x : A} {t : Nat} : look (put e d x) t = if d = some t then some x else look e t := by
  cases d with
  | none => simp [put]
  | some d =>
    simp only [put, look, Option.some.injEq]
    by_cases h : d = t
    · subst h
      rw [show Nat.beq d d = true from Nat.beq_refl d]
      simp
    · have hb : Nat.beq d t = false := by
        cases hb : Nat.beq d t with
        | false => rfl
        | true => exact absurd (Nat.eq_of_beq_eq_true hb) h
      simp [hb, h]
theorem look_puts_not {t : Nat} : ∀ (ms : List MOp) (xs : List A) (e : Env), (∀ m ∈ ms, m.dst ≠ some t) → look (puts e ms xs) t = look e t
  | [], _, _, _ => by simp [puts]
  | _ :: _, [], _, _ => by simp [puts]
  | m :: ms, x :: xs, e, h => by
    simp only [puts]
    rw [look_puts_not ms xs _ (fun m' hm => h m' (.tail _ hm)), look_put, if_neg (h m (.head _))]
theorem look_puts_at {t : Nat} : ∀ (ms : List MOp) (xs : List A) (e : Env) (j : Nat) (m : MOp) (x : A), ms[j]? = some m → xs[j]? = some x → m.dst = some t → (∀ (i : Nat) m', ms[i]? = some m' → m'.dst = some t → i = j) → look (puts e ms xs) t = some x
  | [], _, _, j, m, x, h, _, _, _ => by simp at h
  | _ :: _, [], _, j, m, x, _, h, _, _ => by simp at h
  | m0 :: ms, x0 :: xs, e, j, m, x, hm, hx, hd, hu => by
    simp only [puts]
    cases j with
    | zero =>
      simp at hm hx
      subst hm hx
      rw [look_puts_not, look_put, if_pos hd]
      intro m' hm' hd'
      obtain ⟨i, hi⟩ := List.mem_iff_getElem?.1 hm'
      have := hu (i + 1) m' (by simpa using hi) hd'
      omega
    | succ j =>
      exact look_puts_at ms xs _ j m x (by simpa using hm) (by simpa using hx) hd fun i m' hi hd' => by
        have := hu (i + 1) m' (by simpa using hi) hd'
        omega

theorem forAllV_intro : ∀ {F : List (Value → World → Prop)} {w : World} {K : List Value → Prop}, (∀ vs : List Value, vs.length = F.length → (∀ (i : Nat) R v, F[i]? = some R → vs[i]? = some v → R v w) → K vs) → Rel.forAllV F w K
  | [], _, _, h => h [] rfl (fun i R v h => by simp at h)
  | R :: F, w, K, h => fun v hv => forAllV_intro fun vs hl hR => h (v :: vs) (by simp [hl]) fun i R' v' h1 h2 => by
    cases i with
    | zero =>
      simp at h1 h2
      subst h1 h2
      exact hv
    | succ i => exact hR i R' v' (by simpa using h1) (by simpa using h2)

theorem puts_env {c : Cfg} : ∀ (os : List Oper) (ms : List MOp) (xs : List A) (vs : List Value) (e : Env) (a : Act) (n : Nat), ms.length = os.length → xs.length = os.length → vs.length = os.length →
    (∀ (i : Nat) o m, os[i]? = some o → ms[i]? = some m → m.dst = o.dst ∧ ∀ t, o.dst = some t → t < n) → (∀ (i : Nat) x v, xs[i]? = some x → vs[i]? = some v → R c.ρ c.own c.w x v) → a.tmps.size = n → EnvR c e a →
    EnvR c (puts e ms xs) (Rel.putAll a os vs) ∧ (Rel.putAll a os vs).tmps.size = n ∧ (Rel.putAll a os vs).defers = a.defers
  | [], [], [], [], e, a, n, _, _, _, _, _, hs, he => ⟨he, hs, rfl⟩
  | o :: os, m :: ms, x :: xs, v :: vs, e, a, n, h1, h2, h3, h4, h5, hs, he => by
    obtain ⟨hd, hlt⟩ := h4 0 o m rfl rfl
    simp only [puts, Rel.putAll]
    rw [hd]
    have := puts_env os ms xs vs (put e o.dst x) (a.put o.dst v) n (by simpa using h1) (by simpa using h2) (by simpa using h3) (fun i o' m' ho hm => h4 (i + 1) o' m' (by simpa using ho) (by simpa using hm)) (fun i x' v' hx hv => h5 (i + 1) x' v' (by simpa using hx) (by simpa using hv)) (by rw [Rel.size_put, hs]) (he.put hs hlt (h5 0 x v rfl rfl))
    rw [Rel.defers_put] at this
    exact this
  | [], _ :: _, _, _, _, _, _, h, _, _, _, _, _, _ => by simp at h
  | [], [], _ :: _, _, _, _, _, _, h, _, _, _, _, _ => by simp at h
  | [], [], [], _ :: _, _, _, _, _, _, h, _, _, _, _ => by simp at h
  | _ :: _, [], _, _, _, _, _, h, _, _, _, _, _, _ => by simp at h
  | _ :: _, _ :: _, [], _, _, _, _, _, h, _, _, _, _, _ => by simp at h
  | _ :: _, _ :: _, _ :: _, [], _, _, _, _, _, h, _, _, _, _ => by simp at h

theorem freeze_shut {H : Heap} : ∀ n : Nat, (∀ (a r : A), freeze H n a = some r → shut a = true → r = a) ∧ (∀ (cs rs : List A), mapO (freeze H n) cs = some rs → shut.shutL cs = true → rs = cs) := by
  intro n
  induction n with
  | zero =>
    refine ⟨fun a r h => by simp [freeze] at h, fun cs => ?_⟩
    cases cs with
    | nil => intro rs h _; simp [mapO] at h; rw [h]
    | cons c cs => intro rs h _; unfold mapO at h; simp [freeze] at h
  | succ n ih =>
    have hA : ∀ (a r : A), freeze H (n + 1) a = some r → shut a = true → r = a := by
      intro a r h hs
      cases a with
      | v x => simpa [freeze, eq_comm] using h
      | sl len cs => simpa [freeze, eq_comm] using h
      | fp cs => simpa [freeze, eq_comm] using h
      | mf cs => simpa [freeze, eq_comm] using h
      | mp b => simp [shut] at hs
      | ptr b off => simp [shut] at hs
      | ref b off len sz => simp [shut] at hs
      | agg cs =>
        simp only [freeze] at h
        cases hf : mapO (freeze H n) cs with
        | none => simp [hf] at h
        | some rs =>
          simp only [hf, Option.map_some, Option.some.injEq] at h
          rw [← h, ih.2 cs rs hf (by simpa [shut] using hs)]
      | tup cs =>
        simp only [freeze] at h
        cases hf : mapO (freeze H n) cs with
        | none => simp [hf] at h
        | some rs =>
          simp only [hf, Option.map_some, Option.some.injEq] at h
          rw [← h, ih.2 cs rs hf (by simpa [shut] using hs)]
      | clo f fs caps =>
        simp only [freeze] at h
        simp only [shut, Bool.and_eq_true] at hs
        cases hf : mapO (freeze H n) fs with
        | none => simp [hf] at h
        | some rs =>
          cases hf' : mapO (freeze H n) caps with
          | none => simp [hf, hf'] at h
          | some rs' =>
            simp only [hf, hf', Option.some.injEq] at h
            rw [← h, ih.2 fs rs hf hs.1, ih.2 caps rs' hf' hs.2]
    refine ⟨hA, fun cs => ?_⟩
    induction cs with
    | nil => intro rs h _; simp [mapO] at h; rw [h]
    | cons c cs ihc =>
      intro rs h hs
      unfold mapO at h
      simp only [shut.shutL, Bool.and_eq_true] at hs
      cases h1 : freeze H (n + 1) c with
      | none => simp [h1] at h
      | some r1 =>
        cases h2 : mapO (freeze H (n + 1)) cs with
        | none => simp [h1, h2] at h
        | some r2 =>
          simp only [h1, h2, Option.some.injEq] at h
          rw [← h, hA c r1 h1 hs.1, ihc r2 h2 hs.2]

theorem lend_ok {c : Cfg} (ok : Ok T.gl c) {own : Nat → Prop} (ho : ∀ g, own g → c.own g ∧ ¬ img c.ρ c.H g) : ∀ (as rs : List A) (ys : List Value), lendL c.H as = some rs → RL c.ρ c.own c.w as ys → RL [] own c.w rs ys
  | [], rs, ys, h, hr => by
    simp [lendL] at h
    subst h
    rw [RL] at *
    exact hr
  | a :: as, rs, ys, h, hr => by
    unfold lendL at h
    cases h1 : freeze c.H 20 a with
    | none => simp [h1] at h
    | some r1 =>
      cases h2 : lendL c.H as with
      | none => simp [h1, h2] at h
      | some r2 =>
        simp only [h1, h2, Option.some.injEq] at h
        subst h
        rw [RL] at hr
        obtain ⟨x, xs, rfl, h3, h4⟩ := hr
        exact RL.cons ((freeze_ok ok ho 20).1 a r1 x h1 h3) (lend_ok ok ho as r2 xs h2 h4)
theorem lend_shut {c : Cfg} : ∀ (as rs : List A) (ys : List Value), lendL c.H as = some rs → as.all shut = true → RL c.ρ c.own c.w as ys → RL [] c.own c.w rs ys
  | [], rs, ys, h, _, hr => by
    simp [lendL] at h
    subst h
    rw [RL] at *
    exact hr
  | a :: as, rs, ys, h, hs, hr => by
    unfold lendL at h
    simp only [List.all_cons, Bool.and_eq_true] at hs
    cases h1 : freeze c.H 20 a with
    | none => simp [h1] at h
    | some r1 =>
      cases h2 : lendL c.H as with
      | none => simp [h1, h2] at h
      | some r2 =>
        simp only [h1, h2, Option.some.injEq] at h
        subst h
        rw [RL] at hr
        obtain ⟨x, xs, rfl, h3, h4⟩ := hr
        rw [(freeze_shut 20).1 a r1 h1 hs.1]
        exact RL.cons (shut_ok a x hs.1 h3) (lend_shut as r2 xs h2 hs.2 h4)

section
variable {q : OrcQ} {ov : Orc} {r : Option Nat} {n nt : Nat} {ops : List Oper} {o : Oper}
/-- An operation of the free part, wherever it comes up. -/
theorem free_ok (hT : TOk P T) (hQ : QOk T P q) {c : Cfg} (ok : Ok T.gl c) {st : St} (hH : c.H = st.H) {a : Act} (he : EnvR c (keepE st.env (slotsOf o.op)) a) {x : A} (hd : ∀ c, o.op ≠ .defer c) (h : freeOp T q st o.op = some x) :
    Rel.opOkIn (Wd r) n P Grow (fun v w' => R c.ρ c.own w' x v) c.w ((o.semAt (Wd r).round a.eval).run P c.w) := by
  rw [Oper.semAt_eq _ _ _ hd]
  have hag := agree_keep st.env o.op
  unfold freeOp at h
  cases hcs : calls st.env o.op with
  | some fa =>
    obtain ⟨f, as⟩ := fa
    simp only [hcs] at h
    cases hl : lendL st.H as with
    | none => simp [hl] at h
    | some as' =>
      simp only [hl] at h
      cases hq : q f as' with
      | none => simp [hq] at h
      | some rr =>
        simp only [hq] at h
        split at h
        · rename_i hsf
          obtain rfl := Option.some.inj h
          obtain ⟨hen, hcall⟩ := hQ f as' rr hq
          rw [calls_congr hag] at hcs
          obtain ⟨ys, h1, h2⟩ := calls_ok he hcs hen
          rw [h2 c.w]
          rw [← hH] at hl
          rw [Bool.or_eq_true] at hsf
          refine callsIn_Wd ?_
          rcases hsf with hs | hfl
          · refine (hcall c.own c.w ys ok.lt ok.glob (lend_shut as as' ys hl hs h1)).mono ?_
            rintro e w' ⟨v, rfl, hg, hv⟩
            exact ⟨v, rfl, hg, hv.open_⟩
          · refine (hcall (fun g => c.own g ∧ ¬ img c.ρ c.H g) c.w ys (fun g hg => ok.lt g hg.1) (fun g xs hg => let ⟨h1, h2, h3⟩ := ok.glob g xs hg; ⟨fun h => h1 h.1, h2, h3⟩) (lend_ok ok (fun g hg => hg) as as' ys hl h1)).mono ?_
            rintro e w' ⟨v, rfl, hg, hv⟩
            exact ⟨v, rfl, hg, flat_ok rr v hfl hv⟩
        · cases h
  | none =>
    simp only [hcs] at h
    have viaQuiet : quietOp T st.env st.H o.op = some x → Rel.opOkIn (Wd r) n P Grow (fun v w' => R c.ρ c.own w' x v) c.w ((execOp a.eval o).run P c.w) := by
      intro hq
      rw [quiet_congr hag, ← hH] at hq
      obtain ⟨y, h1, h2⟩ := quiet_ok hT ok he hq
      rw [h1]
      exact ⟨Below.refl _ _, h2⟩
    cases hop : o.op <;> rw [hop] at h <;> simp only at h
    case buildSlice t len ps =>
      rw [hop] at he
      cases hlc : litCells T st.env t len ps with
      | none => simp [hlc] at h
      | some tc =>
        obtain ⟨el, sz, cs⟩ := tc
        simp only [hlc] at h
        split at h
        · rename_i hsc
          obtain rfl := Option.some.inj h
          simp only [Bool.and_eq_true] at hsc
          rw [lit_congr (by rw [hop] at hag; exact hag)] at hlc
          obtain ⟨xs, h1, h2, h3, h4, hrun⟩ := litCells_ok hT he hlc
          have hx : execOp a.eval o = (do pure (.value (← Instr.buildSlice t len (ps.map fun (i, x) => (i, a.eval x)))) : Sem Next) := by simp only [execOp, hop]
          rw [hx]
          simp only [Sem.run_bind, hrun, Result.andThen_ok, Sem.run_pure]
          refine ⟨(Below.refl _ _).alloc (Nat.le_refl _) _, ?_⟩
          simp only [R]
          by_cases h0 : len = 0
          · left
            subst h0
            have : cs = [] := by
              have := h1.length
              rw [h3] at this
              exact List.eq_nil_of_length_eq_zero (by simpa using this.symm)
            exact ⟨rfl, this, _, _, rfl⟩
          · right
            refine ⟨c.w.heap.size, 0, len, xs, rfl, Nat.le_refl _, by simp, fun ho => ?_, RL.keep (grow_keeps ((Below.refl _ _).alloc (Nat.le_refl _) _)) _ _ (shutL_ok cs xs hsc.1 h1), fun i x hx => ?_⟩
            · have := ok.lt _ ho
              omega
            · simp only [Nat.zero_add]
              rw [World.cell?_alloc_new]
              simpa using hx
        · cases h
    all_goals (rw [← hop] at h; exact viaQuiet h)
end
end Go.Proofs.Ytkpolehpdgnliaa.Ev
