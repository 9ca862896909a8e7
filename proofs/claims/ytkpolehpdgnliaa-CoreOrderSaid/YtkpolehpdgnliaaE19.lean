/- Statements and calls: what the evaluator answers, the model answers. -/
import Derived.Test.YtkpolehpdgnliaaE18
import Derived.Test.YtkpolehpdgnliaaE28
set_option linter.unusedSimpArgs false
set_option linter.unusedVariables false
namespace Go.Proofs.Ytkpolehpdgnliaa.Ev
open Go Go.RowKit
variable {P : Program} {T : Tb}

def planM (ops : List Oper) (keep : List Nat) (ord : List Nat) (k : Nat) (ms : List MOp) : M :=
  bif (List.range ms.length).all fun p => Nat.blt p k || (againAt ops ord k p).isEmpty then .reg keep ms k
  else .seq (.reg keep (ms.take k) k) (lateM (fun p => (againAt ops ord k p).filterMap fun j => ms[posOf ord j]?) k (ms.drop k))
/-- A body in short; 'kp': what is alive ahead of each region, and, behind them all, which functions work in their caller's blocks (a hint: whatever it says, the evaluator's answers stand). -/
def cmp (n : Nat) (kp : Nat → List Nat) : Code → M
  | .skip => .skip
  | .label _ => .skip
  | .region id ops draw => match cmpOps n ops.toList ops.toList with
    | some ms => if draw then
        match (List.range (ops.size + 1)).find? (fun k => Rel.fine ops.toList n k && (ops.toList.take k).all (mayFree (kp 1000000))) with
        | some k => .reg (kp id) ms k
        | none => bif fine2 ops.toList n (planOf (kp 1000000) ops.toList).1 (planOf (kp 1000000) ops.toList).2 then
            match cmpOrd n ops.toList (planOf (kp 1000000) ops.toList).1 with
            | some ms' => planM ops.toList (kp id) (planOf (kp 1000000) ops.toList).1 (planOf (kp 1000000) ops.toList).2 ms'
            | none => .bad
          else .bad
      else .reg (kp id) ms 0
    | none => .bad
  | .seq a b => .seq (cmp n kp a) (cmp n kp b)
  | .cond c a b => .cond c (cmp n kp a) (cmp n kp b)
  | .block id a => .block id (cmp n kp a)
  | .loop a => .loop (cmp n kp a)
  | .exit id => .exit id
  | .ret => .ret
  | _ => .bad
def exOf : Ex → Exit
  | .go => .normal
  | .out id => .exit id
  | .back => .ret

section
variable {q : OrcQ} {ov : Orc} {r : Option Nat} {n nt : Nat} {kp : Nat → List Nat}
/-- What is asked of the end of a piece of code. -/
def EndOk (T : Tb) (nt : Nat) (c : Cfg) (d : List Deferred) (ex : Ex) (st' : St) (Q : Exit → Act → World → Prop) : Prop :=
  ∀ a' c', c'.H = st'.H → To c c' → Ok T.gl c' → EnvR c' st'.env a' → a'.tmps.size = nt → a'.defers = d → Q (exOf ex) a' c'.w
def CodeOk (P : Program) (T : Tb) (q : OrcQ) (ov : Orc) (r : Option Nat) (n nt : Nat) (kp : Nat → List Nat) (N : Nat) : Prop :=
  ∀ (code : Code) (st : St) (ex : Ex) (st' : St), runM T q ov N (cmp nt kp code) st = some (ex, st') → ∀ (c : Cfg) (a : Act) (Q : Exit → Act → World → Prop), c.H = st.H → Ok T.gl c → EnvR c st.env a → a.tmps.size = nt →
    EndOk T nt c a.defers ex st' Q → code.wpIn (Wd r) n P Q a c.w
theorem EndOk.later {T : Tb} {c c1 : Cfg} {d d1 : List Deferred} {ex : Ex} {st' : St} {Q : Exit → Act → World → Prop} (h : EndOk T nt c d ex st' Q) (ht : To c c1) (hd : d1 = d) : EndOk T nt c1 d1 ex st' Q :=
  fun a' c' h1 h2 h3 h4 h5 h6 => h a' c' h1 (ht.trans h2) h3 h4 h5 (h6.trans hd)

theorem code_ok (hm : P.follows .mixedOrders = true) (hT : TOk P T) (hQ : QOk T P q) (hO : OOk T P ov) : ∀ N : Nat, CodeOk P T q ov r n nt kp N := by
  intro N
  induction N using Nat.strongRecOn with
  | ind N ih =>
    intro code st ex st' h c a Q hH ok he hs hend
    cases N with
    | zero => simp [runM] at h
    | succ N =>
      have ihN := ih N (by omega)
      cases code with
      | skip =>
        simp only [cmp, runM, Option.some.injEq, Prod.mk.injEq] at h
        obtain ⟨rfl, rfl⟩ := h
        exact wpIn_skip (hend a c hH (To.refl c) ok he hs rfl)
      | label l =>
        simp only [cmp, runM, Option.some.injEq, Prod.mk.injEq] at h
        obtain ⟨rfl, rfl⟩ := h
        exact wpIn_label (hend a c hH (To.refl c) ok he hs rfl)
      | exit id =>
        simp only [cmp, runM, Option.some.injEq, Prod.mk.injEq] at h
        obtain ⟨rfl, rfl⟩ := h
        exact wpIn_exit (hend a c hH (To.refl c) ok he hs rfl)
      | ret =>
        simp only [cmp, runM, Option.some.injEq, Prod.mk.injEq] at h
        obtain ⟨rfl, rfl⟩ := h
        exact wpIn_ret (hend a c hH (To.refl c) ok he hs rfl)
      | region id ops draw =>
        unfold cmp at h
        cases hc : cmpOps nt ops.toList ops.toList with
        | none => simp [hc, runM] at h
        | some ms =>
          simp only [hc] at h
          cases draw with
          | false =>
            simp only [Bool.false_eq_true, if_false, runM] at h
            cases hr : runOps T q ov 0 ms ⟨keepE st.env (kp id), st.H⟩ with
            | none => simp [hr] at h
            | some s1 =>
              simp only [hr, Option.some.injEq, Prod.mk.injEq] at h
              obtain ⟨rfl, rfl⟩ := h
              refine wpIn_region_list ?_
              have := tail_ok (r := r) (n := n) (Q := Q) hT hO ops.toList ms _ s1 a c hc hr hH ok (he.keep _) hs hend
              simpa using this
          | true =>
            simp only [if_true] at h
            cases hf : (List.range (ops.size + 1)).find? (fun k => Rel.fine ops.toList nt k && (ops.toList.take k).all (mayFree (kp 1000000))) with
            | none =>
              simp only [hf] at h
              generalize planOf (kp 1000000) ops.toList = pl at h
              obtain ⟨ord, k⟩ := pl
              simp only at h
              cases hp : fine2 ops.toList nt ord k with
              | false => simp [hp, runM] at h
              | true =>
                simp only [hp, cond_true] at h
                cases hc2 : cmpOrd nt ops.toList ord with
                | none => simp [hc2, runM] at h
                | some ms' =>
                  simp only [hc2] at h
                  have hk : k ≤ ms'.length := by rw [(cmpOrd_get hc2).1.trans (plan_of hp).len]; exact (plan_of hp).kle
                  unfold planM at h
                  cases hA : (List.range ms'.length).all fun p => Nat.blt p k || (againAt ops.toList ord k p).isEmpty with
                  | true =>
                    simp only [hA, cond_true, runM] at h
                    cases hr : runOps T q ov k ms' ⟨keepE st.env (kp id), st.H⟩ with
                    | none => simp [hr] at h
                    | some s1 =>
                      simp only [hr, Option.some.injEq, Prod.mk.injEq] at h
                      obtain ⟨rfl, rfl⟩ := h
                      obtain ⟨xs, Hs, tr, hst⟩ := trace_of hk hr
                      have := draw2_ok (r := r) (n := n) (id := id) (Q := Q) hm hT hQ hO hc2 hp tr hst (fun p hp1 hp2 => by
                        have := List.all_eq_true.1 hA p (List.mem_range.2 hp2)
                        simp only [Bool.or_eq_true, nblt] at this
                        have he : againAt ops.toList ord k p = [] := by
                          rcases this with h1 | h1
                          · omega
                          · simpa using h1
                        rw [he]
                        rfl) hH ok (he.keep _) hs hend
                      simpa using this
                  | false =>
                    simp only [hA, cond_false, runM] at h
                    cases hr0 : runM T q ov N (.reg (kp id) (ms'.take k) k) st with
                    | none => simp [hr0] at h
                    | some es =>
                      obtain ⟨e1, s1⟩ := es
                      cases N with
                      | zero => simp [runM] at hr0
                      | succ N =>
                        have hr1 := hr0
                        simp only [runM] at hr0
                        cases hr : runOps T q ov k (ms'.take k) ⟨keepE st.env (kp id), st.H⟩ with
                        | none => simp [hr] at hr0
                        | some s2 =>
                          simp only [hr, Option.some.injEq, Prod.mk.injEq] at hr0
                          obtain ⟨rfl, rfl⟩ := hr0
                          simp only [hr1] at h
                          obtain ⟨rfl, xs, Hs, tr, hst, hag⟩ := trace_late hk hr h
                          have := draw2_ok (r := r) (n := n) (id := id) (Q := Q) hm hT hQ hO hc2 hp tr hst hag hH ok (he.keep _) hs hend
                          simpa using this
            | some k =>
              simp only [hf, runM] at h
              cases hr : runOps T q ov k ms ⟨keepE st.env (kp id), st.H⟩ with
              | none => simp [hr] at h
              | some s1 =>
                simp only [hr, Option.some.injEq, Prod.mk.injEq] at h
                obtain ⟨rfl, rfl⟩ := h
                have hfine := List.find?_some hf
                have := draw_ok (r := r) (n := n) (id := id) (Q := Q) hm hT hQ hO hc (by simp only [Bool.and_eq_true] at hfine; exact hfine.1) hr hH ok (he.keep _) hs hend
                simpa using this
      | seq x y =>
        simp only [cmp, runM] at h
        cases hr : runM T q ov N (cmp nt kp x) st with
        | none => simp [hr] at h
        | some es =>
          obtain ⟨e1, s1⟩ := es
          refine wpIn_seq (ihN x st e1 s1 hr c a _ hH ok he hs ?_)
          intro a1 c1 k1 k2 k3 k4 k5 k6
          cases e1 with
          | go =>
            simp only [hr] at h
            exact ihN y s1 ex st' h c1 a1 Q k1 k3 k4 k5 (hend.later k2 k6)
          | out id =>
            simp only [hr, Option.some.injEq, Prod.mk.injEq] at h
            obtain ⟨rfl, rfl⟩ := h
            exact hend a1 c1 k1 k2 k3 k4 k5 k6
          | back =>
            simp only [hr, Option.some.injEq, Prod.mk.injEq] at h
            obtain ⟨rfl, rfl⟩ := h
            exact hend a1 c1 k1 k2 k3 k4 k5 k6
      | cond co x y =>
        simp only [cmp, runM] at h
        split at h
        · rename_i t hco
          have hv := he.opnd hco
          rw [R] at hv
          refine wpIn_cond hv ?_
          cases t with
          | true => exact ihN x st ex st' h c a Q hH ok he hs hend
          | false => exact ihN y st ex st' h c a Q hH ok he hs hend
        · cases h
      | block id x =>
        simp only [cmp, runM] at h
        cases hr : runM T q ov N (cmp nt kp x) st with
        | none => simp [hr] at h
        | some es =>
          obtain ⟨e1, s1⟩ := es
          refine wpIn_block (ihN x st e1 s1 hr c a _ hH ok he hs ?_)
          intro a1 c1 k1 k2 k3 k4 k5 k6
          cases e1 with
          | go =>
            simp only [hr, Option.some.injEq, Prod.mk.injEq] at h
            obtain ⟨rfl, rfl⟩ := h
            exact hend a1 c1 k1 k2 k3 k4 k5 k6
          | back =>
            simp only [hr, Option.some.injEq, Prod.mk.injEq] at h
            obtain ⟨rfl, rfl⟩ := h
            exact hend a1 c1 k1 k2 k3 k4 k5 k6
          | out j =>
            simp only [hr] at h
            by_cases hj : j = id
            · subst hj
              rw [show Nat.beq j j = true from Nat.beq_refl j] at h
              simp only [cond_true, Option.some.injEq, Prod.mk.injEq] at h
              obtain ⟨rfl, rfl⟩ := h
              simp only [exOf, Exit.inBlock, if_true]
              exact hend a1 c1 k1 k2 k3 k4 k5 k6
            · have hb : Nat.beq j id = false := by
                cases hb : Nat.beq j id with
                | false => rfl
                | true => exact absurd (Nat.eq_of_beq_eq_true hb) hj
              rw [hb] at h
              simp only [cond_false, Option.some.injEq, Prod.mk.injEq] at h
              obtain ⟨rfl, rfl⟩ := h
              simp only [exOf, Exit.inBlock, if_neg hj]
              exact hend a1 c1 k1 k2 k3 k4 k5 k6
      | loop x =>
        simp only [cmp] at h
        refine wpIn_loop_rounds (N + 1) ?_
        have key : ∀ (m : Nat), m ≤ N + 1 → ∀ (st : St) (c : Cfg) (a : Act), runM T q ov m (.loop (cmp nt kp x)) st = some (ex, st') → c.H = st.H → Ok T.gl c → EnvR c st.env a → a.tmps.size = nt → EndOk T nt c a.defers ex st' Q → Code.roundsIn (Wd r) n P x Q m a c.w := by
          intro m
          induction m with
          | zero => intro _ st c a h; simp [runM] at h
          | succ m ihm =>
            intro hm st c a h hH ok he hs hend
            simp only [runM] at h
            rw [roundsIn_succ]
            cases hr : runM T q ov m (cmp nt kp x) st with
            | none => simp [hr] at h
            | some es =>
              obtain ⟨e1, s1⟩ := es
              refine ih m (by omega) x st e1 s1 hr c a _ hH ok he hs ?_
              intro a1 c1 k1 k2 k3 k4 k5 k6
              cases e1 with
              | go =>
                simp only [hr] at h
                exact ihm (by omega) s1 c1 a1 h k1 k3 k4 k5 (hend.later k2 k6)
              | out id =>
                simp only [hr, Option.some.injEq, Prod.mk.injEq] at h
                obtain ⟨rfl, rfl⟩ := h
                exact hend a1 c1 k1 k2 k3 k4 k5 k6
              | back =>
                simp only [hr, Option.some.injEq, Prod.mk.injEq] at h
                obtain ⟨rfl, rfl⟩ := h
                exact hend a1 c1 k1 k2 k3 k4 k5 k6
        exact key (N + 1) (Nat.le_refl _) st c a h hH ok he hs hend
      | _ => simp [cmp, runM] at h
end

/-- The context is the program's. -/
structure CtxOk (P : Program) (C : Ctx) : Prop where
  mixed : P.follows .mixedOrders = true
  types : TOk P C.T
  fns : ∀ f m, C.B f = some m → ∃ fn code kp, P.funcs[f]? = some fn ∧ fn.body = some code ∧ fn.ntmps = m.nt ∧ fn.results.toList = m.res ∧ (fn.name == "runtime.NumGoroutine") = false ∧ cmp m.nt kp code = m.body
  ext : QOk C.T P C.X

theorem CtxOk.enters {C : Ctx} (h : CtxOk P C) {f : FuncId} {m : MFn} (hf : C.B f = some m) : Enters P f := by
  obtain ⟨fn, code, kp, h1, h2, h3, h4, h5, h6⟩ := h.fns f m hf
  intro args w
  have h5' : ¬ fn.name = "runtime.NumGoroutine" := by simpa using h5
  simp [callFunc, h1, h5', h2]

def resF (tmps : Array Value) (v : ResultVar) : Sem Value := match v with
  | .tmp t => pure (tmps.getD t undef)
  | .cell p t => do loadVar t (← asAddr (tmps.getD p undef))
theorem results_eq (fn : Func) (tmps : Array Value) : results fn tmps = (do let vs ← List.toArray <$> fn.results.toList.mapM (resF tmps); pure (if h : vs.size = 1 then vs[0] else .tuple vs)) := by
  unfold results
  rw [Array.mapM_eq_mapM_toList]
  rfl
theorem resOne_ok (hT : TOk P T) {c : Cfg} (ok : Ok T.gl c) {st : St} (hH : c.H = st.H) {a : Act} (he : EnvR c st.env a) {v : ResultVar} {x : A} (h : resOne T st v = some x) :
    ∃ y, (resF a.tmps v).run P c.w = .ok y c.w ∧ R c.ρ c.own c.w x y := by
  cases v with
  | tmp t => exact ⟨_, rfl, he t x h⟩
  | cell p t =>
    simp only [resOne] at h
    cases hp : look st.env p with
    | none => simp [hp] at h
    | some u =>
      cases hr : readL T.gl st.H u with
      | none => simp [hp, hr] at h
      | some cs =>
        cases hty : T t with
        | none => simp [hp, hr, hty] at h
        | some ty =>
          simp only [hp, hr, hty, Option.bind_some] at h
          rw [← hH] at hr
          obtain ⟨g, off, xs, h1, h2, h3⟩ := readL_ok ok hr (he p u hp)
          obtain ⟨y, h4, h5⟩ := run_loadVar (hT.facts hty) h h2 h3
          refine ⟨y, ?_, h5⟩
          simp only [resF, h1, asAddr, Sem.run_bind, Sem.run_pure, Result.andThen_ok, h4]
theorem resAll_ok (hT : TOk P T) {c : Cfg} (ok : Ok T.gl c) {st : St} (hH : c.H = st.H) {a : Act} (he : EnvR c st.env a) : ∀ (rs : List ResultVar) (xs : List A), resAll T st rs = some xs →
    ∃ ys, (rs.mapM (resF a.tmps)).run P c.w = .ok ys c.w ∧ RL c.ρ c.own c.w xs ys
  | [], xs, h => by
    simp [resAll] at h
    subst h
    exact ⟨[], by simp, RL.nil⟩
  | v :: rs, xs, h => by
    unfold resAll at h
    cases h1 : resOne T st v with
    | none => simp [h1] at h
    | some x =>
      cases h2 : resAll T st rs with
      | none => simp [h1, h2] at h
      | some xs' =>
        simp only [h1, h2, Option.some.injEq] at h
        subst h
        obtain ⟨y, h3, h4⟩ := resOne_ok hT ok hH he h1
        obtain ⟨ys, h5, h6⟩ := resAll_ok hT ok hH he rs xs' h2
        refine ⟨y :: ys, ?_, RL.cons h4 h6⟩
        rw [List.mapM_cons, Sem.run_bind, h3, Result.andThen_ok, Sem.run_bind, h5]
        rfl
theorem result_ok (hT : TOk P T) {c : Cfg} (ok : Ok T.gl c) {st : St} (hH : c.H = st.H) {a : Act} (he : EnvR c st.env a) {fn : Func} {x : A} (h : result T st fn.results.toList = some x) : ∃ y, (results fn a.tmps).run P c.w = .ok y c.w ∧ R c.ρ c.own c.w x y := by
  unfold result at h
  cases hr : resAll T st fn.results.toList with
  | none => simp [hr] at h
  | some xs =>
    obtain ⟨ys, h1, h2⟩ := resAll_ok hT ok hH he _ xs hr
    have hl := h2.length
    rw [results_eq]
    simp only [Sem.run_bind, Sem.run_map, h1, Result.andThen_ok, Sem.run_pure]
    rw [hr] at h
    split at h
    · rename_i x' heq
      obtain rfl := Option.some.inj heq
      obtain rfl := Option.some.inj h
      obtain ⟨y, rfl, h3⟩ := h2.single
      exact ⟨y, by simp, h3⟩
    · rename_i xs' hne heq
      obtain rfl := Option.some.inj heq
      obtain rfl := Option.some.inj h
      have : ¬ ys.toArray.size = 1 := by
        intro h1
        have h3 : xs.length = 1 := by rw [← hl]; simpa using h1
        match xs, h3 with
        | [z], _ => exact hne z rfl
      refine ⟨.tuple ys.toArray, by simp only [dif_neg this], ?_⟩
      rw [R]
      exact ⟨ys, rfl, h2⟩
    · rename_i heq
      cases heq

theorem look_argE : ∀ (as : List A) (i t : Nat) (x : A), look (argE i as) t = some x → i ≤ t ∧ as[t - i]? = some x
  | [], i, t, x, h => by simp [argE, look] at h
  | a :: as, i, t, x, h => by
    simp only [argE, look] at h
    cases hb : Nat.beq i t with
    | true =>
      have := Nat.eq_of_beq_eq_true hb
      subst this
      rw [hb] at h
      simp only [cond_true, Option.some.injEq] at h
      exact ⟨Nat.le_refl _, by simp [h]⟩
    | false =>
      rw [hb] at h
      simp only [cond_false] at h
      obtain ⟨h1, h2⟩ := look_argE as (i + 1) t x h
      refine ⟨by omega, ?_⟩
      have : t - i = (t - (i + 1)) + 1 := by omega
      rw [this]
      simpa using h2

/-- A body, run by the evaluator. -/
theorem body_ok {C : Ctx} (hC : CtxOk P C) {q : OrcQ} {ov : Orc} (hQ : QOk C.T P q) (hO : OOk C.T P ov) {N : Nat} {f : FuncId} {m : MFn} (hf : C.B f = some m) {as : List A} {H H' : Heap} {x : A} (h : runBody C q ov N m as H = some (x, H'))
    {c : Cfg} {ys : List Value} (hH : c.H = H) (ok : Ok C.T.gl c) (hr : RL c.ρ c.own c.w as ys) :
    Go.Calls P f ys.toArray c.w fun e w' => ∃ v c', e = .returned v ∧ c'.w = w' ∧ c'.H = H' ∧ To c c' ∧ Ok C.T.gl c' ∧ R c'.ρ c'.own c'.w x v := by
  obtain ⟨fn, code, kp, h1, h2, h3, h4, h5, h6⟩ := hC.fns f m hf
  unfold runBody at h
  split at h
  · rename_i hlen
    have hl := hr.length
    have henv : EnvR c (argE 0 as) { tmps := ys.toArray ++ Array.replicate (fn.ntmps - ys.toArray.size) undef, defers := [] } := by
      intro t z hz
      obtain ⟨-, hz'⟩ := look_argE as 0 t z hz
      obtain ⟨y, hy, hzr⟩ := hr.get (t - 0) z hz'
      have hy' : (ys.toArray ++ Array.replicate (fn.ntmps - ys.toArray.size) undef)[t]? = some y := by
        rw [Array.getElem?_append_left (by simpa using (List.getElem?_eq_some_iff.1 hy).1)]
        simpa using hy
      simp only [Array.getD_eq_getD_getElem?, hy', Option.getD_some]
      exact hzr
    have hsz : (ys.toArray ++ Array.replicate (fn.ntmps - ys.toArray.size) undef).size = m.nt := by
      simp
      omega
    refine (callsIn_wide (n := 0)).1 (callsIn_of_wp (fn := fn) (c := code) h1 h2 trivial ?_)
    have hfin : ∀ (ex : Ex) (st : St), ex = .go ∨ ex = .back → (match result C.T st m.res with | some a => some (a, st.H) | none => none) = some (x, H') →
        EndOk C.T m.nt c [] ex st (bodyPost P fn fun e w' => ∃ v c', e = .returned v ∧ c'.w = w' ∧ c'.H = H' ∧ To c c' ∧ Ok C.T.gl c' ∧ R c'.ρ c'.own c'.w x v) := by
      intro ex st hex hres a' c' k1 k2 k3 k4 k5 k6
      cases hrr : result C.T st m.res with
      | none => simp [hrr] at hres
      | some x' =>
        simp only [hrr, Option.some.injEq, Prod.mk.injEq] at hres
        obtain ⟨rfl, rfl⟩ := hres
        rw [← h4] at hrr
        obtain ⟨y, j1, j2⟩ := result_ok hC.types k3 k1 k4 hrr
        rcases hex with rfl | rfl
        · exact ⟨k6, y, j1, y, c', rfl, rfl, k1, k2, k3, j2⟩
        · exact ⟨k6, y, j1, y, c', rfl, rfl, k1, k2, k3, j2⟩
    have hwd : Fence.wide = Wd none := rfl
    rw [hwd]
    split at h
    · rename_i st hst
      rw [← h6] at hst
      exact code_ok hC.mixed hC.types hQ hO N code _ _ _ hst c _ _ hH ok henv hsz (hfin _ _ (.inl rfl) h)
    · rename_i st hst
      rw [← h6] at hst
      exact code_ok hC.mixed hC.types hQ hO N code _ _ _ hst c _ _ hH ok henv hsz (hfin _ _ (.inr rfl) h)
    · cases h
  · cases h

/-- Where nothing is live. -/
theorem Ok.none {Gd : Nat → Option (List Value)} {own : Nat → Prop} {w : World} (h : ∀ g, own g → g < w.heap.size) (hg : Gl Gd own w) : Ok Gd ⟨[], own, [], w⟩ :=
  ⟨rfl, h, fun g ⟨b, k, hb, _⟩ => by simp at hb, fun b e cs wh g hb => by simp at hb, fun b b' k k' g hb => by simp at hb, hg⟩

/-- Both kinds of calls. -/
theorem call_sound {C : Ctx} (hC : CtxOk P C) : ∀ N : Nat, QOk C.T P (callQ C N) ∧ OOk C.T P (callQ.callO C N)
  | 0 => ⟨fun f as r h => by simp [callQ] at h, fun f as H x H' h => by simp [callQ.callO] at h⟩
  | N + 1 => by
    obtain ⟨hQ, hO⟩ := call_sound hC N
    -- a body with shut arguments, its value held
    have shutCall : ∀ (f : FuncId) (m : MFn) (as : List A) (a r : A) (H : Heap), C.B f = some m → runBody C (callQ C N) (callQ.callO C N) N m as [] = some (a, H) → holdR m.mode H a = some r →
        ∀ (own : Nat → Prop) (w : World) (ys : List Value), (∀ g, own g → g < w.heap.size) → Gl C.T.gl own w → RL [] own w as ys → Go.Calls P f ys.toArray w fun e w' => ∃ v, e = .returned v ∧ Grow w w' ∧ R [] own w' r v := by
      intro f m as a r H hB hb hz own w ys ho hgl hr
      have hno : ∀ g, ¬ img ([] : List Nat) ([] : Heap) g := fun g ⟨b, k, h, _⟩ => by simp at h
      refine (body_ok hC hQ hO hB hb (c := ⟨[], own, [], w⟩) rfl (Ok.none ho hgl) hr).mono ?_
      rintro e w' ⟨v, c', rfl, rfl, rfl, k2, k3, k4⟩
      refine ⟨v, rfl, k2.grows hno, ?_⟩
      exact holdR_ok k3 (fun g hg => ⟨(k2.own g (ho g hg)).2 hg, fun hi => hno g (k2.img g (ho g hg) hi)⟩) hz k4
    refine ⟨fun f as r h => ?_, fun f as H x H' h => ?_⟩
    · simp only [callQ] at h
      cases hX : C.X f as with
      | some r' =>
        simp only [hX, Option.some.injEq] at h
        subst h
        exact hC.ext f as r' hX
      | none =>
        simp only [hX] at h
        cases hB : C.B f with
        | none => simp [hB] at h
        | some m =>
          simp only [hB] at h
          cases hb : runBody C (callQ C N) (callQ.callO C N) N m as [] with
          | none => simp [hb] at h
          | some aH =>
            obtain ⟨a, H⟩ := aH
            simp only [hb] at h
            exact ⟨hC.enters hB, shutCall f m as a r H hB hb h⟩
    · simp only [callQ.callO] at h
      cases hp : isPass C f with
      | true =>
        simp only [hp, cond_true] at h
        cases hB : C.B f with
        | none => simp [hB] at h
        | some m =>
          simp only [hB] at h
          exact ⟨hC.enters hB, fun c ys hH ok hr => body_ok hC hQ hO hB h hH ok hr⟩
      | false =>
        simp only [hp, cond_false] at h
        cases hl : lendL H as with
        | none => simp [hl] at h
        | some as' =>
          simp only [hl] at h
          cases hq : callQ C N f as' with
          | none => simp [hq] at h
          | some rr =>
            simp only [hq] at h
            obtain ⟨hen, hcall⟩ := hQ f as' rr hq
            split at h
            · rename_i hsf
              simp only [Option.some.injEq, Prod.mk.injEq] at h
              obtain ⟨rfl, rfl⟩ := h
              refine ⟨hen, fun c ys hH ok hr => ?_⟩
              rw [← hH] at hl
              rw [Bool.or_eq_true] at hsf
              rcases hsf with hs | hfl
              · refine (hcall c.own c.w ys ok.lt ok.glob (lend_shut as as' ys hl hs hr)).mono ?_
                rintro e w' ⟨v, rfl, hg, hv⟩
                obtain ⟨h1, h2⟩ := ok.grow hg
                exact ⟨v, ⟨c.ρ, c.own, c.H, w'⟩, rfl, rfl, hH, h1, h2, hv.open_⟩
              · refine (hcall (fun g => c.own g ∧ ¬ img c.ρ c.H g) c.w ys (fun g hg => ok.lt g hg.1) (fun g xs hg => let ⟨h1, h2, h3⟩ := ok.glob g xs hg; ⟨fun h => h1 h.1, h2, h3⟩) (lend_ok ok (fun g hg => hg) as as' ys hl hr)).mono ?_
                rintro e w' ⟨v, rfl, hg, hv⟩
                obtain ⟨h1, h2⟩ := ok.grow hg
                exact ⟨v, ⟨c.ρ, c.own, c.H, w'⟩, rfl, rfl, hH, h1, h2, flat_ok rr v hfl hv⟩
            · cases h
end Go.Proofs.Ytkpolehpdgnliaa.Ev
