/- Statements and calls: what the evaluator answers, the model answers. -/
import Derived.Test.YtijpomemobgddaaGreatDoorE17
import Derived.Test.YtijpomemobgddaaGreatDoorE28
import Derived.Test.YtijpomemobgddaaGreatDoorE16
set_option linter.unusedSimpArgs false
set_option linter.unusedVariables false
namespace Go.Proofs.YtijpomemobgddaaGreatDoor.Ev
open Go Go.RowKit
variable {P : Program} {T : Tb}

def planM (ops : List Oper) (keep : List Nat) (ord : List Nat) (k : Nat) (ms : List MOp) : M :=
  bif (List.range ms.length).all fun p => Nat.blt p k || (againAt ops ord k p).isEmpty then .reg keep ms k
  else .seq (.reg keep (ms.take k) k) (lateM (fun p => (againAt ops ord k p).filterMap fun j => ms[posOf ord j]?) k (ms.drop k))
/-- A body in short; 'kp': what is alive ahead of each region, and, behind them all, which functions work in their caller's blocks (a hint: whatever it says, the evaluator's answers stand). -/
def cmp (n : Nat) (kp : Nat → List Nat) : Code → M
  | .skip => .skip
  | .label _ => .skip
  | .region id ops draw => match cmpOps n ops.toList ops.toList with
    | some ms => if draw then
        match (List.range (ops.size + 1)).find? (fun k => Rel.fine ops.toList n k && (ops.toList.take k).all (mayFree (kp 1000000))) with
        | some k => .reg (kp id) ms k
        | none => bif fine2 ops.toList n (planOf (kp 1000000) ops.toList).1 (planOf (kp 1000000) ops.toList).2 then
            match cmpOrd n ops.toList (planOf (kp 1000000) ops.toList).1 with
            | some ms' => planM ops.toList (kp id) (planOf (kp 1000000) ops.toList).1 (planOf (kp 1000000) ops.toList).2 ms'
            | none => .bad
          else .bad
      else .reg (kp id) ms 0
    | none => .bad
  | .seq a b => .seq (cmp n kp a) (cmp n kp b)
  | .cond c a b => .cond c (cmp n kp a) (cmp n kp b)
  | .block id a => .block id (cmp n kp a)
  | .loop a => .loop (cmp n kp a)
  | .exit id => .exit id
  | .ret => .ret
  | .rangeFunc g ps a b => bif ps.toList.all (fun t => Nat.blt t n) then .rf g n ps.toList (kp 2000000) (cmp n kp a) (cmp n kp b) else .bad
  | _ => .bad
/-- A loop's record is for these slots, assignments and body. -/
def lkOf (nt : Nat) (ps _sl : List Nat) (a b : M) (r : Loop) : Prop := r.params.toList = ps ∧ r.tmps.size = nt ∧ (∀ t ∈ ps, t < nt) ∧ ∃ kp, cmp nt kp r.assign = a ∧ cmp nt kp r.body = b
def exOf : Ex → Exit
  | .go => .normal
  | .out id => .exit id
  | .back => .ret

section
variable {q : OrcQ} {ov : Orc} {r : Option Nat} {n nt : Nat} {kp : Nat → List Nat}
/-- What is asked of the end of a piece of code. -/
def EndOk (T : Tb) (nt : Nat) (c : Cfg) (d : List Deferred) (ex : Ex) (st' : St) (Q : Exit → Act → World → Prop) : Prop :=
  ∀ a' c' ds, c'.H = st'.H → To c c' → Ok T.gl c' → EnvR c' st'.env a' → a'.tmps.size = nt → a'.defers = ds ++ d → MarksOk c c' ds → Q (exOf ex) a' c'.w
/-- Within a round: its loop's record lies there. -/
def RdOk (r : Option Nat) (c : Cfg) : Prop := ∀ l, r = some l → ∃ rc, c.w.heap[l]? = some (.loop rc)
theorem RdOk.to {r : Option Nat} {c c' : Cfg} (h : RdOk r c) (ht : To c c') : RdOk r c' := fun l hl => let ⟨_, h1⟩ := h l hl; ht.loop h1
def CodeOk (P : Program) (T : Tb) (q : OrcQ) (ov : Orc) (r : Option Nat) (n nt : Nat) (kp : Nat → List Nat) (N : Nat) : Prop :=
  ∀ (code : Code) (st : St) (ex : Ex) (st' : St), runM T q ov N (cmp nt kp code) st = some (ex, st') → ∀ (c : Cfg) (a : Act) (Q : Exit → Act → World → Prop), c.H = st.H → Ok T.gl c → EnvR c st.env a → a.tmps.size = nt → RdOk r c →
    EndOk T nt c a.defers ex st' Q → code.wpIn (Wd r) n P Q a c.w
theorem EndOk.later {T : Tb} {c c1 : Cfg} {d d1 ds : List Deferred} {ex : Ex} {st' : St} {Q : Exit → Act → World → Prop} (h : EndOk T nt c d ex st' Q) (ht : To c c1) (hm : MarksOk c c1 ds) (hd : d1 = ds ++ d) : EndOk T nt c1 d1 ex st' Q :=
  fun a' c' ds' h1 h2 h3 h4 h5 h6 h7 => h a' c' (ds' ++ ds) h1 (ht.trans h2) h3 h4 h5 (by rw [h6, hd, List.append_assoc]) (hm.app ht h2 h7)
theorem EndOk.plain {T : Tb} {c : Cfg} {d : List Deferred} {ex : Ex} {st' : St} {Q : Exit → Act → World → Prop} (h : EndOk T nt c d ex st' Q) : ∀ a' c', c'.H = st'.H → To c c' → Ok T.gl c' → EnvR c' st'.env a' → a'.tmps.size = nt → a'.defers = d → Q (exOf ex) a' c'.w :=
  fun a' c' h1 h2 h3 h4 h5 h6 => h a' c' [] h1 h2 h3 h4 h5 (by simpa using h6) .nil

/-- What a loop's record holds of the frame. -/
theorem keepE_RL {c : Cfg} {e : Env} {a : Act} (he : EnvR c e a) : ∀ l : List Nat, RL c.ρ c.own c.w ((keepE e l).map (·.2)) (((keepE e l).map (·.1)).map fun s => a.tmps.getD s undef)
  | [] => by simpa [keepE] using RL.nil
  | s :: l => by
    unfold keepE
    cases h : look e s with
    | none => exact keepE_RL he l
    | some x => exact RL.cons (he s x h) (keepE_RL he l)
theorem callee_ok {ρ : List Nat} {own : Nat → Prop} {w : World} {u : A} {y : Value} {f : FuncId} {fs caps : List A} (h : callee u = some (.fn f, fs, caps)) (hr : R ρ own w u y) :
    ∃ xs ys : List Value, y = .func (.func f) xs.toArray ys.toArray ∧ RL ρ own w fs xs ∧ RL ρ own w caps ys := by
  unfold callee at h
  split at h
  · split at h
    · rename_i hem
      simp only [Option.some.injEq, Prod.mk.injEq, Tgt.fn.injEq] at h
      obtain ⟨rfl, rfl, rfl⟩ := h
      simp only [Bool.and_eq_true, Array.isEmpty_iff] at hem
      obtain ⟨rfl, rfl⟩ := hem
      rw [R] at hr
      exact ⟨[], [], hr, RL.nil, RL.nil⟩
    · cases h
  · simp only [Option.some.injEq, Prod.mk.injEq, Tgt.fn.injEq] at h
    obtain ⟨rfl, rfl, rfl⟩ := h
    rw [R] at hr
    exact hr
  · simp at h
  · cases h
theorem pending_rec {H : Heap} {b : Nat} {ex : Ex} (h : pending H b = some ex) : ∃ r, recOf H b = some r ∧ r.s ≠ 1 ∧ 0 ≤ r.p ∧ ex = exOfN r.p.toNat := by
  unfold pending at h
  cases hr : recOf H b with
  | none => simp [hr] at h
  | some r =>
    simp only [hr] at h
    split at h
    · cases h
    · rename_i h1
      split at h
      · rename_i h2
        exact ⟨r, rfl, h1, h2, (Option.some.inj h).symm⟩
      · cases h
/-- What is asked of the loops' records. -/
def LkOk (T : Tb) : Prop := ∀ nt ps sl a b r, T.gl.lk nt ps sl a b r ↔ lkOf nt ps sl a b r
theorem lk_state {nt : Nat} {ps sl : List Nat} {a b : M} {r : Loop} (hL : LkOk T) (h : T.gl.lk nt ps sl a b r) (s : LoopState) (p : Option Code) : T.gl.lk nt ps sl a b { r with state := s, pending := p } := by
  rw [hL] at h ⊢
  exact h

theorem code_ok (hm : P.follows .mixedOrders = true) (hT : TOk P T) (hL : LkOk T) (hQ : QOk T P q) (hO : OOk T P ov) : ∀ N : Nat, CodeOk P T q ov r n nt kp N := by
  intro N
  induction N using Nat.strongRecOn with
  | ind N ih =>
    intro code st ex st' h c a Q hH ok he hs hrd hend
    cases N with
    | zero => simp [runM] at h
    | succ N =>
      have ihN := ih N (by omega)
      cases code with
      | skip =>
        simp only [cmp, runM, Option.some.injEq, Prod.mk.injEq] at h
        obtain ⟨rfl, rfl⟩ := h
        exact wpIn_skip (hend.plain a c hH (To.refl c) ok he hs rfl)
      | label l =>
        simp only [cmp, runM, Option.some.injEq, Prod.mk.injEq] at h
        obtain ⟨rfl, rfl⟩ := h
        exact wpIn_label (hend.plain a c hH (To.refl c) ok he hs rfl)
      | exit id =>
        simp only [cmp, runM, Option.some.injEq, Prod.mk.injEq] at h
        obtain ⟨rfl, rfl⟩ := h
        exact wpIn_exit (hend.plain a c hH (To.refl c) ok he hs rfl)
      | ret =>
        simp only [cmp, runM, Option.some.injEq, Prod.mk.injEq] at h
        obtain ⟨rfl, rfl⟩ := h
        exact wpIn_ret (hend.plain a c hH (To.refl c) ok he hs rfl)
      | region id ops draw =>
        unfold cmp at h
        cases hc : cmpOps nt ops.toList ops.toList with
        | none => simp [hc, runM] at h
        | some ms =>
          simp only [hc] at h
          cases draw with
          | false =>
            simp only [Bool.false_eq_true, if_false, runM] at h
            cases hr : runOps T q ov 0 ms ⟨keepE st.env (kp id), st.H⟩ with
            | none => simp [hr] at h
            | some s1 =>
              simp only [hr, Option.some.injEq, Prod.mk.injEq] at h
              obtain ⟨rfl, rfl⟩ := h
              refine wpIn_region_list ?_
              have := tail_ok (r := r) (n := n) (Q := Q) hT hO ops.toList ms _ s1 a c hc hr hH ok (he.keep _) hs hend.plain
              simpa using this
          | true =>
            simp only [if_true] at h
            cases hf : (List.range (ops.size + 1)).find? (fun k => Rel.fine ops.toList nt k && (ops.toList.take k).all (mayFree (kp 1000000))) with
            | none =>
              simp only [hf] at h
              generalize planOf (kp 1000000) ops.toList = pl at h
              obtain ⟨ord, k⟩ := pl
              simp only at h
              cases hp : fine2 ops.toList nt ord k with
              | false => simp [hp, runM] at h
              | true =>
                simp only [hp, cond_true] at h
                cases hc2 : cmpOrd nt ops.toList ord with
                | none => simp [hc2, runM] at h
                | some ms' =>
                  simp only [hc2] at h
                  have hk : k ≤ ms'.length := by rw [(cmpOrd_get hc2).1.trans (plan_of hp).len]; exact (plan_of hp).kle
                  unfold planM at h
                  cases hA : (List.range ms'.length).all fun p => Nat.blt p k || (againAt ops.toList ord k p).isEmpty with
                  | true =>
                    simp only [hA, cond_true, runM] at h
                    cases hr : runOps T q ov k ms' ⟨keepE st.env (kp id), st.H⟩ with
                    | none => simp [hr] at h
                    | some s1 =>
                      simp only [hr, Option.some.injEq, Prod.mk.injEq] at h
                      obtain ⟨rfl, rfl⟩ := h
                      obtain ⟨xs, Hs, tr, hst⟩ := trace_of hk hr
                      have := draw2_ok (r := r) (n := n) (id := id) (Q := Q) hm hT hQ hO hc2 hp tr hst (fun p hp1 hp2 => by
                        have := List.all_eq_true.1 hA p (List.mem_range.2 hp2)
                        simp only [Bool.or_eq_true, nblt] at this
                        have he : againAt ops.toList ord k p = [] := by
                          rcases this with h1 | h1
                          · omega
                          · simpa using h1
                        rw [he]
                        rfl) hH ok (he.keep _) hs hend.plain
                      simpa using this
                  | false =>
                    simp only [hA, cond_false, runM] at h
                    cases hr0 : runM T q ov N (.reg (kp id) (ms'.take k) k) st with
                    | none => simp [hr0] at h
                    | some es =>
                      obtain ⟨e1, s1⟩ := es
                      cases N with
                      | zero => simp [runM] at hr0
                      | succ N =>
                        have hr1 := hr0
                        simp only [runM] at hr0
                        cases hr : runOps T q ov k (ms'.take k) ⟨keepE st.env (kp id), st.H⟩ with
                        | none => simp [hr] at hr0
                        | some s2 =>
                          simp only [hr, Option.some.injEq, Prod.mk.injEq] at hr0
                          obtain ⟨rfl, rfl⟩ := hr0
                          simp only [hr1] at h
                          obtain ⟨rfl, xs, Hs, tr, hst, hag⟩ := trace_late hk hr h
                          have := draw2_ok (r := r) (n := n) (id := id) (Q := Q) hm hT hQ hO hc2 hp tr hst hag hH ok (he.keep _) hs hend.plain
                          simpa using this
            | some k =>
              simp only [hf, runM] at h
              cases hr : runOps T q ov k ms ⟨keepE st.env (kp id), st.H⟩ with
              | none => simp [hr] at h
              | some s1 =>
                simp only [hr, Option.some.injEq, Prod.mk.injEq] at h
                obtain ⟨rfl, rfl⟩ := h
                have hfine := List.find?_some hf
                have := draw_ok (r := r) (n := n) (id := id) (Q := Q) hm hT hQ hO hc (by simp only [Bool.and_eq_true] at hfine; exact hfine.1) hr hH ok (he.keep _) hs hend.plain
                simpa using this
      | seq x y =>
        simp only [cmp, runM] at h
        cases hr : runM T q ov N (cmp nt kp x) st with
        | none => simp [hr] at h
        | some es =>
          obtain ⟨e1, s1⟩ := es
          refine wpIn_seq (ihN x st e1 s1 hr c a _ hH ok he hs hrd ?_)
          intro a1 c1 ds1 k1 k2 k3 k4 k5 k6 k7
          cases e1 with
          | go =>
            simp only [hr] at h
            exact ihN y s1 ex st' h c1 a1 Q k1 k3 k4 k5 (hrd.to k2) (hend.later k2 k7 k6)
          | out id =>
            simp only [hr, Option.some.injEq, Prod.mk.injEq] at h
            obtain ⟨rfl, rfl⟩ := h
            exact hend a1 c1 ds1 k1 k2 k3 k4 k5 k6 k7
          | back =>
            simp only [hr, Option.some.injEq, Prod.mk.injEq] at h
            obtain ⟨rfl, rfl⟩ := h
            exact hend a1 c1 ds1 k1 k2 k3 k4 k5 k6 k7
      | cond co x y =>
        simp only [cmp, runM] at h
        split at h
        · rename_i t hco
          have hv := he.opnd hco
          rw [R] at hv
          refine wpIn_cond hv ?_
          cases t with
          | true => exact ihN x st ex st' h c a Q hH ok he hs hrd hend
          | false => exact ihN y st ex st' h c a Q hH ok he hs hrd hend
        · cases h
      | block id x =>
        simp only [cmp, runM] at h
        cases hr : runM T q ov N (cmp nt kp x) st with
        | none => simp [hr] at h
        | some es =>
          obtain ⟨e1, s1⟩ := es
          refine wpIn_block (ihN x st e1 s1 hr c a _ hH ok he hs hrd ?_)
          intro a1 c1 ds1 k1 k2 k3 k4 k5 k6 k7
          cases e1 with
          | go =>
            simp only [hr, Option.some.injEq, Prod.mk.injEq] at h
            obtain ⟨rfl, rfl⟩ := h
            exact hend a1 c1 ds1 k1 k2 k3 k4 k5 k6 k7
          | back =>
            simp only [hr, Option.some.injEq, Prod.mk.injEq] at h
            obtain ⟨rfl, rfl⟩ := h
            exact hend a1 c1 ds1 k1 k2 k3 k4 k5 k6 k7
          | out j =>
            simp only [hr] at h
            by_cases hj : j = id
            · subst hj
              rw [show Nat.beq j j = true from Nat.beq_refl j] at h
              simp only [cond_true, Option.some.injEq, Prod.mk.injEq] at h
              obtain ⟨rfl, rfl⟩ := h
              simp only [exOf, Exit.inBlock, if_true]
              exact hend a1 c1 ds1 k1 k2 k3 k4 k5 k6 k7
            · have hb : Nat.beq j id = false := by
                cases hb : Nat.beq j id with
                | false => rfl
                | true => exact absurd (Nat.eq_of_beq_eq_true hb) hj
              rw [hb] at h
              simp only [cond_false, Option.some.injEq, Prod.mk.injEq] at h
              obtain ⟨rfl, rfl⟩ := h
              simp only [exOf, Exit.inBlock, if_neg hj]
              exact hend a1 c1 ds1 k1 k2 k3 k4 k5 k6 k7
      | loop x =>
        simp only [cmp] at h
        refine wpIn_loop_rounds (N + 1) ?_
        have key : ∀ (m : Nat), m ≤ N + 1 → ∀ (st : St) (c : Cfg) (a : Act), runM T q ov m (.loop (cmp nt kp x)) st = some (ex, st') → c.H = st.H → Ok T.gl c → EnvR c st.env a → a.tmps.size = nt → RdOk r c → EndOk T nt c a.defers ex st' Q → Code.roundsIn (Wd r) n P x Q m a c.w := by
          intro m
          induction m with
          | zero => intro _ st c a h; simp [runM] at h
          | succ m ihm =>
            intro hm st c a h hH ok he hs hrd hend
            simp only [runM] at h
            rw [roundsIn_succ]
            cases hr : runM T q ov m (cmp nt kp x) st with
            | none => simp [hr] at h
            | some es =>
              obtain ⟨e1, s1⟩ := es
              refine ih m (by omega) x st e1 s1 hr c a _ hH ok he hs hrd ?_
              intro a1 c1 ds1 k1 k2 k3 k4 k5 k6 k7
              cases e1 with
              | go =>
                simp only [hr] at h
                exact ihm (by omega) s1 c1 a1 h k1 k3 k4 k5 (hrd.to k2) (hend.later k2 k7 k6)
              | out id =>
                simp only [hr, Option.some.injEq, Prod.mk.injEq] at h
                obtain ⟨rfl, rfl⟩ := h
                exact hend a1 c1 ds1 k1 k2 k3 k4 k5 k6 k7
              | back =>
                simp only [hr, Option.some.injEq, Prod.mk.injEq] at h
                obtain ⟨rfl, rfl⟩ := h
                exact hend a1 c1 ds1 k1 k2 k3 k4 k5 k6 k7
        exact key (N + 1) (Nat.le_refl _) st c a h hH ok he hs hrd hend
      | rangeFunc g ps ca cb =>
        simp only [cmp] at h
        cases hps : ps.toList.all (fun t => Nat.blt t nt) with
        | false => simp [hps, runM] at h
        | true =>
          simp only [hps, cond_true, runM] at h
          split at h
          · rename_i f fs caps hcal
            split at h
            · rename_i xr H1 ho
              split at h
              · rename_i ex1 hpend
                simp only [Option.some.injEq, Prod.mk.injEq] at h
                obtain ⟨rfl, rfl⟩ := h
                rcases hO.fn f _ _ _ _ ho with ⟨as', hlend, -⟩ | ⟨hen, hcall⟩
                · exfalso
                  have hno : ∀ (l1 l2 : List A) (H : Heap) (b : Nat), lendL H (l1 ++ .yl b :: l2) = none := by
                    intro l1 l2 H b
                    induction l1 with
                    | nil => simp [lendL, freeze]
                    | cons z l1 ih => simp [lendL, ih]
                  rw [List.append_assoc, List.singleton_append, hno] at hlend
                  cases hlend
                obtain ⟨u, hu, hcal⟩ := Option.bind_eq_some_iff.1 hcal
                obtain ⟨xs, ys, hg, hxs, hys⟩ := callee_ok hcal (he.opnd hu)
                have hlk : ∀ (fn : FuncId) (D : Nat), T.gl.lk nt ps.toList ((keepE st.env (kp 2000000)).map (·.1)) (cmp nt kp ca) (cmp nt kp cb) { state := .ready, pending := none, fn, tmps := a.tmps, params := ps, assign := ca, body := cb, defers := D } := fun fn D => (hL _ _ _ _ _ _).2 ⟨rfl, hs, fun t ht => by
                  have := List.all_eq_true.1 hps t ht
                  have h1 : t + 1 ≤ nt := by simpa [Nat.blt] using this
                  exact h1, kp, rfl, rfl⟩
                have hlay : ∀ fn : FuncId, ∃ (c2 : Cfg) (l : Nat) (mark : List Deferred), (Instr.enterLoop fn a.tmps ps ca cb (Wd r).round).run P c.w = .ok (l, mark) c2.w ∧ c2.H = st.H ++ [some (newRecA nt ps.toList (cmp nt kp ca) (cmp nt kp cb) (keepE st.env (kp 2000000)))] ∧ To c c2 ∧ Ok T.gl c2 ∧ c2.ρ[st.H.length]? = some l ∧ (∃ rc, c2.w.heap[l]? = some (.loop rc)) ∧ MarksOk c c2 mark := by
                  intro fn
                  cases r with
                  | none =>
                    obtain ⟨c1, h1, h2, h3, h4, h5, h6⟩ := newMark ok
                    have hsz : c1.w.heap.size = c.w.heap.size + 1 := by rw [h1]; exact World.size_alloc ..
                    obtain ⟨c2, j1, j2, j3, j4, j5, j6⟩ := newRec h5 (hlk fn c.w.heap.size) (recV_RL rfl rfl (keepE_RL (he.to h4 ok) (kp 2000000)))
                    refine ⟨c2, c.w.heap.size + 1, [markOf c.w.heap.size], ?_, by rw [j1, h2, hH]; rfl, h4.trans j3, j4, by rw [← hH, ← h2, j5, hsz], ⟨_, by rw [← hsz]; exact j6⟩, ⟨[c.w.heap.size], by simp, rfl, fun D hD => ?_⟩⟩
                    · rw [j2, h1]
                      exact run_enterLoop_outer ..
                    · rw [List.mem_singleton.1 hD]
                      exact h6.to j3
                  | some l0 =>
                    obtain ⟨rc0, hrc0⟩ := hrd l0 rfl
                    obtain ⟨c2, j1, j2, j3, j4, j5, j6⟩ := newRec ok (hlk fn rc0.defers) (recV_RL rfl rfl (keepE_RL he (kp 2000000)))
                    refine ⟨c2, c.w.heap.size, [], ?_, by rw [j1, hH]; rfl, j3, j4, by rw [← hH, j5], ⟨_, j6⟩, .nil⟩
                    rw [j2]
                    exact run_enterLoop_inner hrc0 ..
                refine wpIn_rangeFunc fun fn _ => ?_
                obtain ⟨c2, l, mark, j1, j2, j3, j4, j5, ⟨rc2, j6⟩, j7⟩ := hlay fn
                have hargs : RL c2.ρ c2.own c2.w (fs ++ [.yl st.H.length] ++ caps) (xs ++ [Value.func (.yield l) #[] #[]] ++ ys) :=
                  ((hxs.to j3 ok).append (RL.cons (by rw [R]; exact ⟨l, j5, rfl, rc2, j6⟩) RL.nil)).append (hys.to j3 ok)
                refine ⟨l, mark, c2.w, { target := .fn (.func f) ys.toArray, args := xs.toArray ++ #[.func (.yield l) #[] #[]] }, c2.w, f, (xs ++ [Value.func (.yield l) #[] #[]] ++ ys).toArray, c2.w, j1, ?_, fun f' _ => Wd.fn r f', ?_, (fun h => by cases h), ?_⟩
                · simp only [resolve, rangeCall, hg]
                  simp [Deferred.ofValue, Act.eval]
                · simp only [invoke]
                  rw [hen]
                  congr 1
                  simp
                · refine callsIn_Wd ((hcall c2 _ j2 j4 hargs).mono ?_)
                  rintro e w' ⟨v, c3, rfl, rfl, k1, k2, k3, -⟩
                  obtain ⟨rr, hrr, hs1, hp0, rfl⟩ := pending_rec hpend
                  have hl3 : c3.ρ[st.H.length]? = some l := pre_get k2.pre j5
                  rw [← k1] at hrr
                  obtain ⟨k, rc3, m1, m2, m3, m4, m5, m6⟩ := rec_ok k3 hrr hl3
                  have hbusy : rc3.state ≠ .busy := by
                    intro hb
                    rw [hb] at m4
                    simp only [stV, Value.int.injEq, true_and] at m4
                    exact hs1 m4.symm
                  obtain ⟨c4, n1, n2, n3, n4, -⟩ := setRec (rc' := { rc3 with state := .exhausted }) k3 m1 hl3 m2 (lk_state hL m3 .exhausted rc3.pending) (recV_RL (s := 3) rfl m5 m6)
                  obtain ⟨n5, n6⟩ := dropBlk n4 st.H.length
                  have hto : To c ⟨c4.ρ, c4.own, c4.H.set st.H.length none, c4.w⟩ := ((j3.trans k2).trans n3).trans n5
                  have hfin : ∀ e, Ev.exOfN rr.p.toNat = e → Q (exOf e) { a with defers := mark ++ a.defers } c4.w := by
                    rintro e rfl
                    exact hend { a with defers := mark ++ a.defers } ⟨c4.ρ, c4.own, c4.H.set st.H.length none, c4.w⟩ mark (by rw [n1, List.set_set, k1]) hto n6 (fun t x hx => ((he.to hto ok) t x hx)) hs rfl (((j7.to k2).to n3).to n5)
                  refine ⟨rc3.pending, c4.w, ?_, ?_⟩
                  · rw [n2]
                    exact run_endLoop m2 hbusy
                  · cases hpe : rc3.pending with
                    | none =>
                      rw [hpe] at m5
                      simp only [peV, Value.int.injEq, true_and] at m5
                      exact hfin .go (by rw [← m5]; rfl)
                    | some cd =>
                      rw [hpe] at m5
                      cases cd with
                      | ret =>
                        simp only [peV, Value.int.injEq, true_and] at m5
                        exact wpIn_ret (hfin .back (by rw [← m5]; rfl))
                      | exit id =>
                        simp only [peV, Value.int.injEq, true_and] at m5
                        exact wpIn_exit (hfin (.out id) (by rw [← m5]; rfl))
                      | _ => simp [peV] at m5
              · cases h
            · cases h
          · cases h
      | _ => simp [cmp, runM] at h
end

/-- The context is the program's. -/
structure CtxOk (P : Program) (C : Ctx) : Prop where
  mixed : P.follows .mixedOrders = true
  types : TOk P C.T
  loops : LkOk C.T
  fns : ∀ f m, C.B f = some m → ∃ fn code kp, P.funcs[f]? = some fn ∧ fn.body = some code ∧ fn.ntmps = m.nt ∧ fn.results.toList = m.res ∧ (fn.name == "runtime.NumGoroutine") = false ∧ cmp m.nt kp code = m.body
  ext : QOk C.T P C.X
  extO : ∀ f g as H x H', C.XO f = some g → g as H = some (x, H') → FnOut C.T P f as H x H'

theorem CtxOk.enters {C : Ctx} (h : CtxOk P C) {f : FuncId} {m : MFn} (hf : C.B f = some m) : Enters P f := by
  obtain ⟨fn, code, kp, h1, h2, h3, h4, h5, h6⟩ := h.fns f m hf
  intro args w
  have h5' : ¬ fn.name = "runtime.NumGoroutine" := by simpa using h5
  simp [callFunc, h1, h5', h2]

def resF (tmps : Array Value) (v : ResultVar) : Sem Value := match v with
  | .tmp t => pure (tmps.getD t undef)
  | .cell p t => do loadVar t (← asAddr (tmps.getD p undef))
theorem results_eq (fn : Func) (tmps : Array Value) : results fn tmps = (do let vs ← List.toArray <$> fn.results.toList.mapM (resF tmps); pure (if h : vs.size = 1 then vs[0] else .tuple vs)) := by
  unfold results
  rw [Array.mapM_eq_mapM_toList]
  rfl
theorem resOne_ok (hT : TOk P T) {c : Cfg} (ok : Ok T.gl c) {st : St} (hH : c.H = st.H) {a : Act} (he : EnvR c st.env a) {v : ResultVar} {x : A} (h : resOne T st v = some x) :
    ∃ y, (resF a.tmps v).run P c.w = .ok y c.w ∧ R c.ρ c.own c.w x y := by
  cases v with
  | tmp t => exact ⟨_, rfl, he t x h⟩
  | cell p t =>
    simp only [resOne] at h
    cases hp : look st.env p with
    | none => simp [hp] at h
    | some u =>
      cases hr : readL T.gl.tab st.H u with
      | none => simp [hp, hr] at h
      | some cs =>
        cases hty : T t with
        | none => simp [hp, hr, hty] at h
        | some ty =>
          simp only [hp, hr, hty, Option.bind_some] at h
          rw [← hH] at hr
          obtain ⟨g, off, xs, h1, h2, h3⟩ := readL_ok ok hr (he p u hp)
          obtain ⟨y, h4, h5⟩ := run_loadVar (hT.facts hty) h h2 h3
          refine ⟨y, ?_, h5⟩
          simp only [resF, h1, asAddr, Sem.run_bind, Sem.run_pure, Result.andThen_ok, h4]
theorem resAll_ok (hT : TOk P T) {c : Cfg} (ok : Ok T.gl c) {st : St} (hH : c.H = st.H) {a : Act} (he : EnvR c st.env a) : ∀ (rs : List ResultVar) (xs : List A), resAll T st rs = some xs →
    ∃ ys, (rs.mapM (resF a.tmps)).run P c.w = .ok ys c.w ∧ RL c.ρ c.own c.w xs ys
  | [], xs, h => by
    simp [resAll] at h
    subst h
    exact ⟨[], by simp, RL.nil⟩
  | v :: rs, xs, h => by
    unfold resAll at h
    cases h1 : resOne T st v with
    | none => simp [h1] at h
    | some x =>
      cases h2 : resAll T st rs with
      | none => simp [h1, h2] at h
      | some xs' =>
        simp only [h1, h2, Option.some.injEq] at h
        subst h
        obtain ⟨y, h3, h4⟩ := resOne_ok hT ok hH he h1
        obtain ⟨ys, h5, h6⟩ := resAll_ok hT ok hH he rs xs' h2
        refine ⟨y :: ys, ?_, RL.cons h4 h6⟩
        rw [List.mapM_cons, Sem.run_bind, h3, Result.andThen_ok, Sem.run_bind, h5]
        rfl
theorem result_ok (hT : TOk P T) {c : Cfg} (ok : Ok T.gl c) {st : St} (hH : c.H = st.H) {a : Act} (he : EnvR c st.env a) {fn : Func} {x : A} (h : result T st fn.results.toList = some x) : ∃ y, (results fn a.tmps).run P c.w = .ok y c.w ∧ R c.ρ c.own c.w x y := by
  unfold result at h
  cases hr : resAll T st fn.results.toList with
  | none => simp [hr] at h
  | some xs =>
    obtain ⟨ys, h1, h2⟩ := resAll_ok hT ok hH he _ xs hr
    have hl := h2.length
    rw [results_eq]
    simp only [Sem.run_bind, Sem.run_map, h1, Result.andThen_ok, Sem.run_pure]
    rw [hr] at h
    split at h
    · rename_i x' heq
      obtain rfl := Option.some.inj heq
      obtain rfl := Option.some.inj h
      obtain ⟨y, rfl, h3⟩ := h2.single
      exact ⟨y, by simp, h3⟩
    · rename_i xs' hne heq
      obtain rfl := Option.some.inj heq
      obtain rfl := Option.some.inj h
      have : ¬ ys.toArray.size = 1 := by
        intro h1
        have h3 : xs.length = 1 := by rw [← hl]; simpa using h1
        match xs, h3 with
        | [z], _ => exact hne z rfl
      refine ⟨.tuple ys.toArray, by simp only [dif_neg this], ?_⟩
      rw [R]
      exact ⟨ys, rfl, h2⟩
    · rename_i heq
      cases heq

theorem look_argE : ∀ (as : List A) (i t : Nat) (x : A), look (argE i as) t = some x → i ≤ t ∧ as[t - i]? = some x
  | [], i, t, x, h => by simp [argE, look] at h
  | a :: as, i, t, x, h => by
    simp only [argE, look] at h
    cases hb : Nat.beq i t with
    | true =>
      have := Nat.eq_of_beq_eq_true hb
      subst this
      rw [hb] at h
      simp only [cond_true, Option.some.injEq] at h
      exact ⟨Nat.le_refl _, by simp [h]⟩
    | false =>
      rw [hb] at h
      simp only [cond_false] at h
      obtain ⟨h1, h2⟩ := look_argE as (i + 1) t x h
      refine ⟨by omega, ?_⟩
      have : t - i = (t - (i + 1)) + 1 := by omega
      rw [this]
      simpa using h2

/-- The marks, one behind the other; then the results. -/
theorem leaves_ok {T : Tb} (hT : TOk P T) {c0 : Cfg} {st : St} {a : Act} {fn : Func} {x : A} : ∀ {ds : List Deferred} {c : Cfg}, To c0 c → result T st fn.results.toList = some x → MarksOk c0 c ds → Ok T.gl c → c.H = st.H → EnvR c st.env a →
    LeavesInM (Wd none) 0 P fn a.tmps (Back T c0 x st.H) ds .returning c.w := by
  intro ds c ht hres hmk ok hH he
  obtain ⟨Ds, hnd, rfl, hD⟩ := hmk
  induction Ds generalizing c with
  | nil =>
    obtain ⟨y, j1, j2⟩ := result_ok hT ok hH he hres
    exact ⟨y, j1, y, c, rfl, rfl, hH, ht, ok, j2⟩
  | cons D Ds ih =>
    obtain ⟨hn1, hn2⟩ := List.nodup_cons.1 hnd
    have hm := hD D (.head _)
    obtain ⟨k1, k2, k3, k4⟩ := shutMark ok ht hm
    refine ⟨by simp, .inl ⟨D, c.w.putObj D (.deferred none), rfl, run_takeDeferred hm.lies, ?_⟩⟩
    exact ih (c := ⟨c.ρ, c.own, c.H, c.w.putObj D (.deferred none)⟩) k3 k2 hH (fun t z hz => R.keep k1 _ _ (he t z hz)) hn2 fun D' hD' => k4 D' (by rintro rfl; exact hn1 hD') (hD D' (.tail _ hD'))

theorem foldl_env {c : Cfg} : ∀ (ps : List Nat) (as : List A) (ys : List Value) (e : Env) (t : Array Value) (d : List Deferred), EnvR c e { tmps := t, defers := d } → RL c.ρ c.own c.w as ys → (∀ p ∈ ps, p < t.size) →
    EnvR c (zipE ps as e) { tmps := (ps.zip ys).foldl (fun tmps (p : Nat × Value) => tmps.setIfInBounds p.1 p.2) t, defers := d } ∧ ((ps.zip ys).foldl (fun tmps (p : Nat × Value) => tmps.setIfInBounds p.1 p.2) t).size = t.size
  | [], as, ys, e, t, d, he, hr, hp => by
    unfold zipE
    exact ⟨he, rfl⟩
  | p :: ps, [], ys, e, t, d, he, hr, hp => by
    rw [RL] at hr
    subst hr
    unfold zipE
    exact ⟨he, rfl⟩
  | p :: ps, x :: as, ys, e, t, d, he, hr, hp => by
    rw [RL] at hr
    obtain ⟨y, ys, rfl, h1, h2⟩ := hr
    have he' : EnvR c ((p, x) :: e) { tmps := t.setIfInBounds p y, defers := d } := EnvR.put (d := some p) he (n := t.size) rfl (fun t' h => by cases h; exact hp p (.head _)) h1
    obtain ⟨h3, h4⟩ := foldl_env ps as ys ((p, x) :: e) (t.setIfInBounds p y) d he' h2 (fun q hq => by simpa using hp q (.tail _ hq))
    unfold zipE
    exact ⟨h3, by rw [List.zip_cons_cons, List.foldl_cons, h4]; simp⟩
theorem slots_env {c : Cfg} {t : Array Value} {d : List Deferred} : ∀ (sl : List Nat) (vs : List A) (e : Env), EnvR c e { tmps := t, defers := d } → RL c.ρ c.own c.w vs (sl.map fun s => t.getD s undef) → EnvR c (zipE sl vs e) { tmps := t, defers := d }
  | [], vs, e, he, hr => by unfold zipE; exact he
  | s :: sl, [], e, he, hr => by unfold zipE; exact he
  | s :: sl, x :: vs, e, he, hr => by
    rw [List.map_cons, RL] at hr
    obtain ⟨y, ys, h0, h1, h2⟩ := hr
    simp only [List.cons.injEq] at h0
    obtain ⟨rfl, rfl⟩ := h0
    unfold zipE
    refine slots_env sl vs _ (fun t' z hz => ?_) h2
    simp only [look] at hz
    cases hb : Nat.beq s t' with
    | true =>
      rw [hb] at hz
      simp only [cond_true, Option.some.injEq] at hz
      rw [← hz, ← Nat.eq_of_beq_eq_true hb]
      exact h1
    | false =>
      rw [hb] at hz
      exact he t' z hz

/-- A round, run by the evaluator. -/
theorem round_ok {C : Ctx} (hC : CtxOk P C) {q : OrcQ} {ov : Orc} (hQ : QOk C.T P q) (hO : OOk C.T P ov) {N b : Nat} {as : List A} {H H' : Heap} {x : A} (h : runRound C.T q ov N b as H = some (x, H'))
    {c : Cfg} {ys : List Value} {l : Nat} (hH : c.H = H) (ok : Ok C.T.gl c) (hr : RL c.ρ c.own c.w as ys) (hl : c.ρ[b]? = some l) :
    ∃ rec, c.w.heap[l]? = some (.loop rec) ∧ ys.length = rec.params.size ∧ ∀ (r : Option Nat) (n : Nat), RoundIn (Wd r) n P l rec.fn (roundTmps rec ys.toArray) rec.assign rec.body c.w (Back C.T c x H') := by
  unfold runRound at h
  cases h0 : recOf H b with
  | none => simp [h0] at h
  | some r0 =>
    simp only [h0] at h
    split at h
    · rename_i hc0
      obtain ⟨hs0, hlen⟩ := hc0
      rw [← hH] at h0
      obtain ⟨k0, rc, a1, a2, a3, a4, a5, a6⟩ := rec_ok ok h0 hl
      obtain ⟨b1, b2, b3, kp, b4, b5⟩ := (hC.loops _ _ _ _ _ _).1 a3
      have hyl : ys.length = rc.params.size := by
        rw [hr.length, hlen, ← b1]
        simp
      cases h1 : runM C.T q ov N r0.a ⟨zipE r0.ps as (zipE r0.sl r0.vs []), H⟩ with
      | none => simp [h1] at h
      | some es =>
        obtain ⟨e1, s1⟩ := es
        cases e1 with
        | go =>
          simp only [h1] at h
          cases h2 : recOf s1.H b with
          | none => simp [h2] at h
          | some r1 =>
            simp only [h2] at h
            split at h
            · rename_i hs1
              cases h3 : runM C.T q ov N r0.b ⟨s1.env, s1.H.set b (some (r1.blk 1 r1.p))⟩ with
              | none => simp [h3] at h
              | some es =>
                obtain ⟨e2, s2⟩ := es
                simp only [h3] at h
                cases h4 : recOf s2.H b with
                | none => simp [h4] at h
                | some r2 =>
                  simp only [h4] at h
                  have hx : x = .v (.bool (match e2 with | .go => true | _ => false)) ∧ H' = s2.H.set b (some (match e2 with | .go => r2.blk 0 0 | ex => r2.blk 2 (nOfEx ex))) := by
                    cases e2 <;> simp only [Option.some.injEq, Prod.mk.injEq] at h <;> exact ⟨h.1.symm, h.2.symm⟩
                  refine ⟨rc, a2, hyl, fun r n => roundIn_of_wpIn (Wd.fn r _) ?_⟩
                  have hfold : roundTmps rc ys.toArray = (r0.ps.zip ys).foldl (fun tmps (p : Nat × Value) => tmps.setIfInBounds p.1 p.2) rc.tmps := by
                    unfold roundTmps
                    rw [← Array.foldl_toList, Array.toList_zip, ← b1]
                  have henv0 : EnvR c (zipE r0.sl r0.vs []) { tmps := rc.tmps, defers := [] } := slots_env _ _ _ (fun t z hz => by simp [look] at hz) a6
                  obtain ⟨henv, hsz⟩ := foldl_env r0.ps as ys _ rc.tmps [] henv0 hr (fun p hp => by rw [b2]; exact b3 p hp)
                  rw [← hfold] at henv hsz
                  rw [← b4] at h1
                  rw [← b5] at h3
                  refine code_ok (r := some l) (n := n) hC.mixed hC.types hC.loops hQ hO N rc.assign _ .go s1 h1 c { tmps := roundTmps rc ys.toArray, defers := [] } _ hH ok henv (hsz.trans b2) (fun l' hl' => by cases hl'; exact ⟨rc, a2⟩) ?_
                  intro act1 c1 ds1 k1 k2 k3 k4 k5 _ _
                  have hl1 : c1.ρ[b]? = some l := pre_get k2.pre hl
                  rw [← k1] at h2
                  obtain ⟨kb1, rc1, d1, d2, d3, d4, d5, d6⟩ := rec_ok k3 h2 hl1
                  have hready : rc1.state = .ready := by
                    cases hst : rc1.state with
                    | ready => rfl
                    | _ =>
                      rw [hst, hs1] at d4
                      simp [stV] at d4
                  obtain ⟨c2, e1, e2', e3, e4, e5⟩ := setRec (rc' := { rc1 with state := .busy }) k3 d1 hl1 d2 (lk_state hC.loops d3 .busy rc1.pending) (recV_RL (s := 1) rfl d5 d6)
                  refine ⟨c2.w, by rw [e2']; exact run_beginRound d2 hready, ?_⟩
                  have hl2 : c2.ρ[b]? = some l := by rw [e5]; exact hl1
                  refine code_ok (r := some l) (n := n) hC.mixed hC.types hC.loops hQ hO N rc.body _ e2 s2 h3 c2 act1 _ (by rw [e1, k1]; rfl) e4 (k4.to e3 k3) k5 (fun l' hl' => by cases hl'; exact e3.loop d2) ?_
                  intro act3 c3 ds3 m1 m2 m3 m4 m5 _ _
                  have hl3 : c3.ρ[b]? = some l := pre_get m2.pre hl2
                  rw [← m1] at h4
                  obtain ⟨kb3, rc3, f1, f2, f3, f4, f5, f6⟩ := rec_ok m3 h4 hl3
                  have fin : ∀ (jump : Option Code) (s p : Int), stV (if jump.isNone then .ready else .done) = .int .i64 s → peV jump = .int .i64 p → H' = s2.H.set b (some (r2.blk s p)) → x = .v (.bool jump.isNone) →
                      ∃ v w', (Instr.endRound l jump).run P c3.w = .ok v w' ∧ Back C.T c x H' (.returned v) w' := by
                    intro jump s p hs hp hHx hxx
                    obtain ⟨c4, g1, g2, g3, g4, -⟩ := setRec (rc' := { rc3 with state := if jump.isNone then .ready else .done, pending := jump }) m3 f1 hl3 f2 (lk_state hC.loops f3 _ jump) (recV_RL hs hp f6)
                    refine ⟨.bool jump.isNone, c4.w, by rw [g2]; exact run_endRound jump f2, .bool jump.isNone, c4, rfl, rfl, ?_, ((k2.trans e3).trans m2).trans g3, g4, by rw [hxx, R]⟩
                    rw [g1, hHx, m1]
                    rfl
                  obtain ⟨hx1, hx2⟩ := hx
                  cases e2 with
                  | go => exact fin none 0 0 rfl rfl hx2 hx1
                  | back => exact fin (some .ret) 2 1 rfl rfl hx2 hx1
                  | out id => exact fin (some (.exit id)) 2 (id + 2) rfl rfl hx2 hx1
            · cases h
        | out id => simp [h1] at h
        | back => simp [h1] at h
    · cases h

/-- A body, run by the evaluator. -/
theorem body_ok {C : Ctx} (hC : CtxOk P C) {q : OrcQ} {ov : Orc} (hQ : QOk C.T P q) (hO : OOk C.T P ov) {N : Nat} {f : FuncId} {m : MFn} (hf : C.B f = some m) {as : List A} {H H' : Heap} {x : A} (h : runBody C q ov N m as H = some (x, H'))
    {c : Cfg} {ys : List Value} (hH : c.H = H) (ok : Ok C.T.gl c) (hr : RL c.ρ c.own c.w as ys) :
    Go.Calls P f ys.toArray c.w (Back C.T c x H') := by
  obtain ⟨fn, code, kp, h1, h2, h3, h4, h5, h6⟩ := hC.fns f m hf
  unfold runBody at h
  split at h
  · rename_i hlen
    have hl := hr.length
    have henv : EnvR c (argE 0 as) { tmps := ys.toArray ++ Array.replicate (fn.ntmps - ys.toArray.size) undef, defers := [] } := by
      intro t z hz
      obtain ⟨-, hz'⟩ := look_argE as 0 t z hz
      obtain ⟨y, hy, hzr⟩ := hr.get (t - 0) z hz'
      have hy' : (ys.toArray ++ Array.replicate (fn.ntmps - ys.toArray.size) undef)[t]? = some y := by
        rw [Array.getElem?_append_left (by simpa using (List.getElem?_eq_some_iff.1 hy).1)]
        simpa using hy
      simp only [Array.getD_eq_getD_getElem?, hy', Option.getD_some]
      exact hzr
    have hsz : (ys.toArray ++ Array.replicate (fn.ntmps - ys.toArray.size) undef).size = m.nt := by
      simp
      omega
    refine (callsIn_wide (n := 0)).1 (callsIn_of_wp_marks (fn := fn) (c := code) h1 h2 trivial ?_)
    have hfin : ∀ (ex : Ex) (st : St), ex = .go ∨ ex = .back → (match result C.T st m.res with | some a => some (a, st.H) | none => none) = some (x, H') →
        EndOk C.T m.nt c [] ex st (bodyPostM (Wd none) 0 P fn (Back C.T c x H')) := by
      intro ex st hex hres a' c' ds k1 k2 k3 k4 k5 k6 k7
      cases hrr : result C.T st m.res with
      | none => simp [hrr] at hres
      | some x' =>
        simp only [hrr, Option.some.injEq, Prod.mk.injEq] at hres
        obtain ⟨rfl, rfl⟩ := hres
        rw [← h4] at hrr
        rw [List.append_nil] at k6
        have := leaves_ok (P := P) hC.types k2 hrr k7 k3 k1 k4
        rcases hex with rfl | rfl
        · show LeavesInM (Wd none) 0 P fn a'.tmps _ a'.defers .returning c'.w
          rw [k6]
          exact this
        · show LeavesInM (Wd none) 0 P fn a'.tmps _ a'.defers .returning c'.w
          rw [k6]
          exact this
    have hwd : Fence.wide = Wd none := rfl
    rw [hwd]
    split at h
    · rename_i st hst
      rw [← h6] at hst
      exact code_ok hC.mixed hC.types hC.loops hQ hO N code _ _ _ hst c _ _ hH ok henv hsz (fun l hl => by cases hl) (hfin _ _ (.inl rfl) h)
    · rename_i st hst
      rw [← h6] at hst
      exact code_ok hC.mixed hC.types hC.loops hQ hO N code _ _ _ hst c _ _ hH ok henv hsz (fun l hl => by cases hl) (hfin _ _ (.inr rfl) h)
    · cases h
  · cases h

/-- Where nothing is live. -/
theorem Ok.none {Gd : GD} {own : Nat → Prop} {w : World} (h : ∀ g, own g → g < w.heap.size) (hg : Gl Gd own w) : Ok Gd ⟨[], own, [], w⟩ :=
  ⟨rfl, h, fun g ⟨b, k, hb, _⟩ => by simp at hb, fun b e cs wh g hb => by simp at hb, fun b b' k k' g hb => by simp at hb, hg⟩

/-- Both kinds of calls. -/
theorem call_sound {C : Ctx} (hC : CtxOk P C) : ∀ N : Nat, QOk C.T P (callQ C N) ∧ OOk C.T P (callQ.callO C N)
  | 0 => ⟨fun f as r h => by simp [callQ] at h, ⟨fun f as H x H' h => by simp [callQ.callO] at h, fun b as H x H' h => by simp [callQ.callO] at h⟩⟩
  | N + 1 => by
    obtain ⟨hQ, hO⟩ := call_sound hC N
    -- a body with shut arguments, its value held
    have shutCall : ∀ (f : FuncId) (m : MFn) (as : List A) (a r : A) (H : Heap), C.B f = some m → runBody C (callQ C N) (callQ.callO C N) N m as [] = some (a, H) → holdR m.mode H a = some r →
        ∀ (own : Nat → Prop) (w : World) (ys : List Value), (∀ g, own g → g < w.heap.size) → Gl C.T.gl own w → RL [] own w as ys → Go.Calls P f ys.toArray w fun e w' => ∃ v, e = .returned v ∧ Grow w w' ∧ R [] own w' r v := by
      intro f m as a r H hB hb hz own w ys ho hgl hr
      have hno : ∀ g, ¬ img ([] : List Nat) ([] : Heap) g := fun g ⟨b, k, h, _⟩ => by simp at h
      refine (body_ok hC hQ hO hB hb (c := ⟨[], own, [], w⟩) rfl (Ok.none ho hgl) hr).mono ?_
      rintro e w' ⟨v, c', rfl, rfl, rfl, k2, k3, k4⟩
      refine ⟨v, rfl, k2.grows hno, ?_⟩
      exact holdR_ok k3 (fun g hg => ⟨(k2.own g (ho g hg)).2 hg, fun hi => hno g (k2.img g (ho g hg) hi)⟩) hz k4
    refine ⟨fun f as r h => ?_, ⟨fun f as H x H' h => ?_, fun b as H x H' h c ys l hH ok hr hl => ?_⟩⟩
    rotate_left 2
    · simp only [callQ.callO] at h
      exact round_ok hC hQ hO h hH ok hr hl
    · simp only [callQ] at h
      cases hX : C.X f as with
      | some r' =>
        simp only [hX, Option.some.injEq] at h
        subst h
        exact hC.ext f as r' hX
      | none =>
        simp only [hX] at h
        cases hB : C.B f with
        | none => simp [hB] at h
        | some m =>
          simp only [hB] at h
          cases hb : runBody C (callQ C N) (callQ.callO C N) N m as [] with
          | none => simp [hb] at h
          | some aH =>
            obtain ⟨a, H⟩ := aH
            simp only [hb] at h
            exact .inr ⟨hC.enters hB, shutCall f m as a r H hB hb h⟩
    · simp only [callQ.callO] at h
      cases hXO : C.XO f with
      | some g =>
        simp only [hXO] at h
        exact hC.extO f g as H x H' hXO h
      | none => ?_
      simp only [hXO] at h
      cases hp : isPass C f with
      | true =>
        simp only [hp, cond_true] at h
        cases hB : C.B f with
        | none => simp [hB] at h
        | some m =>
          simp only [hB] at h
          exact .inr ⟨hC.enters hB, fun c ys hH ok hr => body_ok hC hQ hO hB h hH ok hr⟩
      | false =>
        simp only [hp, cond_false] at h
        cases hT : isTrim C f with
        | true =>
          simp only [hT, cond_true] at h
          cases hB : C.B f with
          | none => simp [hB] at h
          | some m =>
            simp only [hB] at h
            cases hr : runBody C (callQ C N) (callQ.callO C N) N m as H with
            | none => simp [hr, trimR] at h
            | some aH =>
              obtain ⟨a, H1⟩ := aH
              rw [hr] at h
              refine .inr ⟨hC.enters hB, fun c ys hH ok hrl => (body_ok hC hQ hO hB hr hH ok hrl).mono ?_⟩
              rintro e w' ⟨v, c1, rfl, rfl, rfl, k2, k3, k4⟩
              simp only [trimR] at h
              cases hlow : lowA H.length a && lowH H.length H.length c1.H with
              | false => simp [hlow] at h
              | true =>
                simp only [hlow, cond_true, Option.some.injEq, Prod.mk.injEq] at h
                obtain ⟨rfl, rfl⟩ := h
                rw [Bool.and_eq_true] at hlow
                subst hH
                obtain ⟨j1, j2, j3⟩ := trim_ok ok k2 k3 hlow.1 hlow.2 k4
                exact ⟨v, ⟨c.ρ, c1.own, c1.H.take c.H.length, c1.w⟩, rfl, rfl, rfl, j1, j2, j3⟩
        | false => ?_
        simp only [hT, cond_false] at h
        cases hl : lendL H as with
        | none => simp [hl] at h
        | some as' =>
          simp only [hl] at h
          cases hq : callQ C N f as' with
          | none => simp [hq] at h
          | some rr =>
            simp only [hq] at h
            split at h
            · rename_i hsf
              simp only [Option.some.injEq, Prod.mk.injEq] at h
              obtain ⟨rfl, rfl⟩ := h
              rcases hQ f as' rr hq with hat | ⟨hen, hcall⟩
              · exact .inl ⟨as', by simp only [hl], rfl, hsf, hat⟩
              refine .inr ⟨hen, fun c ys hH ok hr => ?_⟩
              rw [← hH] at hl
              rw [Bool.or_eq_true] at hsf
              rcases hsf with hs | hfl
              · refine (hcall c.own c.w ys ok.lt ok.glob (lend_shut as as' ys hl hs hr)).mono ?_
                rintro e w' ⟨v, rfl, hg, hv⟩
                obtain ⟨h1, h2⟩ := ok.grow hg
                exact ⟨v, ⟨c.ρ, c.own, c.H, w'⟩, rfl, rfl, hH, h1, h2, hv.open_⟩
              · refine (hcall (fun g => c.own g ∧ ¬ img c.ρ c.H g) c.w ys (fun g hg => ok.lt g hg.1) (ok.glob.less fun g h => h.1) (lend_ok ok (fun g hg => hg) as as' ys hl hr)).mono ?_
                rintro e w' ⟨v, rfl, hg, hv⟩
                obtain ⟨h1, h2⟩ := ok.grow hg
                exact ⟨v, ⟨c.ρ, c.own, c.H, w'⟩, rfl, rfl, hH, h1, h2, flat_ok rr v hfl hv⟩
            · cases h
end Go.Proofs.YtijpomemobgddaaGreatDoor.Ev
