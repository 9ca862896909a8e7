/- The evaluator without counts of steps: equations by which a run is rewritten, statement by statement. -/
import Derived.Test.YtijpomemobgddaaGreatDoorE19
set_option linter.unusedSimpArgs false
set_option linter.unusedVariables false
namespace Go.Proofs.YtijpomemobgddaaGreatDoor.Ev
open Go Go.RowKit
variable {T : Tb}

def LeQ (q q' : OrcQ) : Prop := ∀ f as r, q f as = some r → q' f as = some r
def LeO (o o' : Orc) : Prop := ∀ f as H r, o f as H = some r → o' f as H = some r
theorem freeOp_mono {q q' : OrcQ} (h : LeQ q q') {st : St} {op : Op} {r : A} (hr : freeOp T q st op = some r) : freeOp T q' st op = some r := by
  unfold freeOp at hr ⊢
  cases hc : calls st.env op with
  | none => simpa [hc] using hr
  | some fa =>
    obtain ⟨f | b0, as⟩ := fa
    rotate_left
    · simp [hc] at hr
    simp only [hc] at hr ⊢
    cases hl : lendL st.H as with
    | none => simp [hl] at hr
    | some as' =>
      simp only [hl] at hr ⊢
      cases hq : q f as' with
      | none => simp [hq] at hr
      | some x =>
        rw [h f as' x hq]
        simpa [hq] using hr
theorem anyOp_mono {o o' : Orc} (h : LeO o o') {st : St} {op : Op} {r : A × Heap} (hr : anyOp T o st op = some r) : anyOp T o' st op = some r := by
  unfold anyOp at hr ⊢
  cases hc : calls st.env op with
  | none => simpa [hc] using hr
  | some fa =>
    simp only [hc] at hr ⊢
    exact h _ _ _ _ hr
theorem runOps_mono {q q' : OrcQ} {o o' : Orc} (h : LeQ q q') (h' : LeO o o') : ∀ (ms : List MOp) (n : Nat) (st st' : St), runOps T q o n ms st = some st' → runOps T q' o' n ms st = some st'
  | [], n, st, st', hr => by simpa [runOps] using hr
  | m :: ms, n, st, st', hr => by
    unfold runOps at hr ⊢
    cases hw : wants st.env m.guard with
    | none => simp [hw] at hr
    | some b =>
      cases b with
      | false =>
        simp only [hw] at hr ⊢
        exact runOps_mono h h' ms _ _ st' hr
      | true =>
        cases n with
        | zero =>
          simp only [hw] at hr ⊢
          cases ha : anyOp T o st m.op with
          | none => simp [ha] at hr
          | some r =>
            rw [anyOp_mono h' ha]
            simp only [ha] at hr
            exact runOps_mono h h' ms _ _ st' hr
        | succ n =>
          simp only [hw] at hr ⊢
          cases ha : freeOp T q st m.op with
          | none => simp [ha] at hr
          | some r =>
            rw [freeOp_mono h ha]
            simp only [ha] at hr
            exact runOps_mono h h' ms _ _ st' hr
theorem runM_mono {q q' : OrcQ} {o o' : Orc} (h : LeQ q q') (h' : LeO o o') : ∀ (n n' : Nat) (m : M) (st : St) (r : Ex × St), n ≤ n' → runM T q o n m st = some r → runM T q' o' n' m st = some r
  | 0, _, _, _, _, _, hr => by simp [runM] at hr
  | n + 1, 0, _, _, _, hn, _ => by omega
  | n + 1, n' + 1, m, st, r, hn, hr => by
    have hn' : n ≤ n' := by omega
    cases m with
    | skip => simpa [runM] using hr
    | exit id => simpa [runM] using hr
    | ret => simpa [runM] using hr
    | bad => simp [runM] at hr
    | reg keep ops free =>
      simp only [runM] at hr ⊢
      cases h1 : runOps T q o free ops ⟨keepE st.env keep, st.H⟩ with
      | none => simp [h1] at hr
      | some st1 =>
        rw [runOps_mono h h' ops free _ st1 h1]
        simpa [h1] using hr
    | ops ops =>
      simp only [runM] at hr ⊢
      cases h1 : runOps T q o 0 ops st with
      | none => simp [h1] at hr
      | some st1 =>
        rw [runOps_mono h h' ops 0 _ st1 h1]
        simpa [h1] using hr
    | again ops => simpa only [runM] using hr
    | rf g nt ps sl a b =>
      simp only [runM] at hr ⊢
      split at hr
      · split at hr
        · rename_i H' ho
          rw [h' _ _ _ _ ho]
          exact hr
        · cases hr
      · cases hr
    | seq a b =>
      simp only [runM] at hr ⊢
      cases h1 : runM T q o n a st with
      | none => simp [h1] at hr
      | some es =>
        obtain ⟨e1, s1⟩ := es
        rw [runM_mono h h' n n' a st _ hn' h1]
        cases e1 with
        | go =>
          simp only [h1] at hr ⊢
          exact runM_mono h h' n n' b s1 r hn' hr
        | out id => simpa [h1] using hr
        | back => simpa [h1] using hr
    | cond c a b =>
      simp only [runM] at hr ⊢
      split at hr
      · rename_i t hc
        exact runM_mono h h' n n' _ st r hn' hr
      · cases hr
    | block id a =>
      simp only [runM] at hr ⊢
      cases h1 : runM T q o n a st with
      | none => simp [h1] at hr
      | some es =>
        obtain ⟨e1, s1⟩ := es
        rw [runM_mono h h' n n' a st _ hn' h1]
        cases e1 <;> simpa [h1] using hr
    | loop a =>
      simp only [runM] at hr ⊢
      cases h1 : runM T q o n a st with
      | none => simp [h1] at hr
      | some es =>
        obtain ⟨e1, s1⟩ := es
        rw [runM_mono h h' n n' a st _ hn' h1]
        cases e1 with
        | go =>
          simp only [h1] at hr ⊢
          exact runM_mono h h' n n' (.loop a) s1 r hn' hr
        | out id => simpa [h1] using hr
        | back => simpa [h1] using hr
theorem runBody_mono {C : Ctx} {q q' : OrcQ} {o o' : Orc} (h : LeQ q q') (h' : LeO o o') {n n' : Nat} {m : MFn} {as : List A} {H : Heap} {r : A × Heap} (hn : n ≤ n') (hr : runBody C q o n m as H = some r) : runBody C q' o' n' m as H = some r := by
  unfold runBody at hr ⊢
  split at hr
  · rename_i hl
    rw [if_pos hl]
    cases h1 : runM C.T q o n m.body ⟨argE 0 as, H⟩ with
    | none => simp [h1] at hr
    | some es =>
      rw [runM_mono h h' n n' _ _ _ hn h1]
      simpa [h1] using hr
  · cases hr
theorem runRound_mono {q q' : OrcQ} {o o' : Orc} (h : LeQ q q') (h' : LeO o o') {n n' : Nat} {b : Nat} {as : List A} {H : Heap} {r : A × Heap} (hn : n ≤ n') (hr : runRound T q o n b as H = some r) : runRound T q' o' n' b as H = some r := by
  unfold runRound at hr ⊢
  cases h0 : recOf H b with
  | none => simp [h0] at hr
  | some r0 =>
    simp only [h0] at hr ⊢
    split at hr
    · rename_i hc
      rw [if_pos hc]
      cases h1 : runM T q o n r0.a ⟨zipE r0.ps as (zipE r0.sl r0.vs []), H⟩ with
      | none => simp [h1] at hr
      | some es =>
        obtain ⟨e1, s1⟩ := es
        rw [runM_mono h h' n n' _ _ _ hn h1]
        cases e1 with
        | go =>
          simp only [h1] at hr ⊢
          cases h2 : recOf s1.H b with
          | none => simp [h2] at hr
          | some r1 =>
            simp only [h2] at hr ⊢
            split at hr
            · rename_i hc1
              rw [if_pos hc1]
              cases h3 : runM T q o n r0.b ⟨s1.env, s1.H.set b (some (r1.blk 1 r1.p))⟩ with
              | none => simp [h3] at hr
              | some es =>
                obtain ⟨e2, s2⟩ := es
                rw [runM_mono h h' n n' _ _ _ hn h3]
                simp only [h3] at hr ⊢
                exact hr
            · cases hr
        | out id => simp [h1] at hr
        | back => simp [h1] at hr
    · cases hr
theorem call_mono (C : Ctx) : ∀ N, LeQ (callQ C N) (callQ C (N + 1)) ∧ LeO (callQ.callO C N) (callQ.callO C (N + 1))
  | 0 => ⟨fun f as r h => by simp [callQ] at h, fun f as H r h => by simp [callQ.callO] at h⟩
  | N + 1 => by
    obtain ⟨h1, h2⟩ := call_mono C N
    have hb : ∀ m as H r, runBody C (callQ C N) (callQ.callO C N) N m as H = some r → runBody C (callQ C (N + 1)) (callQ.callO C (N + 1)) (N + 1) m as H = some r := fun m as H r h => runBody_mono h1 h2 (by omega) h
    refine ⟨fun f as r h => ?_, fun f as H r h => ?_⟩
    · rw [callQ] at h ⊢
      cases hX : C.X f as with
      | some r' => simpa [hX] using h
      | none =>
        simp only [hX] at h ⊢
        cases hB : C.B f with
        | none => simp [hB] at h
        | some m =>
          simp only [hB] at h ⊢
          cases h3 : runBody C (callQ C N) (callQ.callO C N) N m as [] with
          | none => simp [h3] at h
          | some aH =>
            rw [hb _ _ _ _ h3]
            simpa [h3] using h
    · cases f with
      | yl b =>
        simp only [callQ.callO] at h ⊢
        exact runRound_mono h1 h2 (by omega) h
      | fn f => ?_
      rw [callQ.callO] at h ⊢
      cases hXO : C.XO f with
      | some g => simpa only [hXO] using h
      | none => ?_
      simp only [hXO] at h ⊢
      cases hp : isPass C f with
      | true =>
        simp only [hp, cond_true] at h ⊢
        cases hB : C.B f with
        | none => simp [hB] at h
        | some m =>
          simp only [hB] at h ⊢
          exact hb _ _ _ _ h
      | false =>
        simp only [hp, cond_false] at h ⊢
        cases hT : isTrim C f with
        | true =>
          simp only [hT, cond_true] at h ⊢
          cases hB : C.B f with
          | none => simp [hB] at h
          | some m =>
            simp only [hB] at h ⊢
            cases hr : runBody C (callQ C N) (callQ.callO C N) N m as H with
            | none => simp [hr, trimR] at h
            | some aH =>
              rw [hb _ _ _ _ hr]
              rw [hr] at h
              exact h
        | false => ?_
        simp only [hT, cond_false] at h ⊢
        cases hl : lendL H as with
        | none => simp [hl] at h
        | some as' =>
          simp only [hl] at h ⊢
          cases h3 : callQ C N f as' with
          | none => simp [h3] at h
          | some rr =>
            rw [h1 f as' rr h3]
            simpa [h3] using h
theorem callQ_le (C : Ctx) {N N' : Nat} (h : N ≤ N') : LeQ (callQ C N) (callQ C N') := by
  induction h with
  | refl => exact fun _ _ _ h => h
  | step _ ih => exact fun f as r hr => (call_mono C _).1 f as r (ih f as r hr)
theorem callO_le (C : Ctx) {N N' : Nat} (h : N ≤ N') : LeO (callQ.callO C N) (callQ.callO C N') := by
  induction h with
  | refl => exact fun _ _ _ _ h => h
  | step _ ih => exact fun f as H r hr => (call_mono C _).2 f as H r (ih f as H r hr)

/-- What a function gives. -/
def EvQ (C : Ctx) (f : FuncId) (as : List A) (r : A) : Prop := ∃ N, callQ C N f as = some r
def EvO (C : Ctx) (f : FuncId) (as : List A) (H : Heap) (x : A) (H' : Heap) : Prop := ∃ N, callQ.callO C N (.fn f) as H = some (x, H')
/-- What a round gives. -/
def EvY (C : Ctx) (b : Nat) (as : List A) (H : Heap) (x : A) (H' : Heap) : Prop := ∃ N, callQ.callO C N (.yl b) as H = some (x, H')
theorem EvQ.one {C : Ctx} {f : FuncId} {as : List A} {r r' : A} (h : EvQ C f as r) (h' : EvQ C f as r') : r' = r := by
  obtain ⟨N, h⟩ := h
  obtain ⟨N', h'⟩ := h'
  have h1 := callQ_le C (Nat.le_max_left N N') _ _ _ h
  have h2 := callQ_le C (Nat.le_max_right N N') _ _ _ h'
  rw [h1] at h2
  exact (Option.some.inj h2).symm
theorem EvO.one {C : Ctx} {f : FuncId} {as : List A} {H : Heap} {x x' : A} {H1 H2 : Heap} (h : EvO C f as H x H1) (h' : EvO C f as H x' H2) : x' = x ∧ H2 = H1 := by
  obtain ⟨N, h⟩ := h
  obtain ⟨N', h'⟩ := h'
  have h1 := callO_le C (Nat.le_max_left N N') _ _ _ _ h
  have h2 := callO_le C (Nat.le_max_right N N') _ _ _ _ h'
  rw [h1] at h2
  simp only [Option.some.injEq, Prod.mk.injEq] at h2
  exact ⟨h2.1.symm, h2.2.symm⟩

/-- What is still to be done. -/
inductive It where
  | code (m : M)
  | blk (id : Nat)
  | lp (m : M)
def runAt (C : Ctx) (N : Nat) (m : M) (st : St) : Option (Ex × St) := runM C.T (callQ C N) (callQ.callO C N) N m st
def opsAt (C : Ctx) (N : Nat) (n : Nat) (ms : List MOp) (st : St) : Option St := runOps C.T (callQ C N) (callQ.callO C N) n ms st
theorem runAt_le (C : Ctx) {N N' : Nat} (h : N ≤ N') {m : M} {st : St} {r : Ex × St} (hr : runAt C N m st = some r) : runAt C N' m st = some r := runM_mono (callQ_le C h) (callO_le C h) N N' m st r h hr
theorem opsAt_le (C : Ctx) {N N' : Nat} (h : N ≤ N') {n : Nat} {ms : List MOp} {st st' : St} (hr : opsAt C N n ms st = some st') : opsAt C N' n ms st = some st' := runOps_mono (callQ_le C h) (callO_le C h) ms n st st' hr
mutual
def runI (C : Ctx) (N : Nat) : List It → St → Option (Ex × St)
  | [], st => some (.go, st)
  | .code m :: k, st => match runAt C N m st with
    | some (.go, st') => runI C N k st'
    | some (.out id, st') => unwI C N (.out id) k st'
    | some (.back, st') => unwI C N .back k st'
    | none => none
  | .blk _ :: k, st => runI C N k st
  | .lp m :: k, st => match runAt C N (.loop m) st with
    | some (.go, st') => runI C N k st'
    | some (.out id, st') => unwI C N (.out id) k st'
    | some (.back, st') => unwI C N .back k st'
    | none => none
def unwI (C : Ctx) (N : Nat) : Ex → List It → St → Option (Ex × St)
  | ex, [], st => some (ex, st)
  | .out id, .blk j :: k, st => bif Nat.beq id j then runI C N k st else unwI C N (.out id) k st
  | ex, _ :: k, st => unwI C N ex k st
end
mutual
theorem runI_le (C : Ctx) {N N' : Nat} (h : N ≤ N') : ∀ (k : List It) (st : St) (r : Ex × St), runI C N k st = some r → runI C N' k st = some r
  | [], st, r, hr => by simpa [runI] using hr
  | .code m :: k, st, r, hr => by
    rw [runI] at hr ⊢
    cases h1 : runAt C N m st with
    | none => simp [h1] at hr
    | some es =>
      obtain ⟨e1, s1⟩ := es
      rw [runAt_le C h h1]
      cases e1 <;> simp only [h1] at hr ⊢
      · exact runI_le C h k s1 r hr
      · exact unwI_le C h _ k s1 r hr
      · exact unwI_le C h _ k s1 r hr
  | .blk id :: k, st, r, hr => by
    rw [runI] at hr ⊢
    exact runI_le C h k st r hr
  | .lp m :: k, st, r, hr => by
    rw [runI] at hr ⊢
    cases h1 : runAt C N (.loop m) st with
    | none => simp [h1] at hr
    | some es =>
      obtain ⟨e1, s1⟩ := es
      rw [runAt_le C h h1]
      cases e1 <;> simp only [h1] at hr ⊢
      · exact runI_le C h k s1 r hr
      · exact unwI_le C h _ k s1 r hr
      · exact unwI_le C h _ k s1 r hr
theorem unwI_le (C : Ctx) {N N' : Nat} (h : N ≤ N') : ∀ (ex : Ex) (k : List It) (st : St) (r : Ex × St), unwI C N ex k st = some r → unwI C N' ex k st = some r
  | ex, [], st, r, hr => by simpa [unwI] using hr
  | .go, x :: k, st, r, hr => by
    rw [unwI] at hr ⊢
    · exact unwI_le C h _ k st r hr
    all_goals (intros; contradiction)
  | .back, x :: k, st, r, hr => by
    rw [unwI] at hr ⊢
    · exact unwI_le C h _ k st r hr
    all_goals (intros; contradiction)
  | .out id, .blk j :: k, st, r, hr => by
    rw [unwI] at hr ⊢
    cases hb : Nat.beq id j with
    | true =>
      rw [hb] at hr
      exact runI_le C h k st r hr
    | false =>
      rw [hb] at hr
      exact unwI_le C h _ k st r hr
  | .out id, .code m :: k, st, r, hr => by
    rw [unwI] at hr ⊢
    · exact unwI_le C h _ k st r hr
    all_goals (intros; contradiction)
  | .out id, .lp m :: k, st, r, hr => by
    rw [unwI] at hr ⊢
    · exact unwI_le C h _ k st r hr
    all_goals (intros; contradiction)
end

/-- A run that comes to its end, and what is asked there. -/
def RunK (C : Ctx) (k : List It) (st : St) (Q : Ex → St → Prop) : Prop := ∃ N ex st', runI C N k st = some (ex, st') ∧ Q ex st'
def UnwK (C : Ctx) (ex : Ex) (k : List It) (st : St) (Q : Ex → St → Prop) : Prop := ∃ N ex' st', unwI C N ex k st = some (ex', st') ∧ Q ex' st'
def OpsK (C : Ctx) (n : Nat) (ms : List MOp) (st : St) (k : List It) (Q : Ex → St → Prop) : Prop := ∃ N st', opsAt C N n ms st = some st' ∧ RunK C k st' Q
def CondK (C : Ctx) (x : Option A) (a b : M) (k : List It) (st : St) (Q : Ex → St → Prop) : Prop := ∃ t, x = some (.v (.bool t)) ∧ RunK C (.code (bif t then a else b) :: k) st Q

section
variable {C : Ctx} {k : List It} {st : St} {Q : Ex → St → Prop}
theorem runK_nil : RunK C [] st Q ↔ Q .go st := ⟨fun ⟨N, ex, st', h, hq⟩ => by simp only [runI, Option.some.injEq, Prod.mk.injEq] at h; obtain ⟨rfl, rfl⟩ := h; exact hq, fun h => ⟨0, .go, st, by rw [runI], h⟩⟩
theorem runK_blk {id : Nat} : RunK C (.blk id :: k) st Q ↔ RunK C k st Q := by
  constructor
  · rintro ⟨N, ex, st', h, hq⟩
    rw [runI] at h
    exact ⟨N, ex, st', h, hq⟩
  · rintro ⟨N, ex, st', h, hq⟩
    exact ⟨N, ex, st', by rw [runI]; exact h, hq⟩
/-- One item, then the others. -/
theorem runK_code {m : M} : RunK C (.code m :: k) st Q ↔ ∃ N ex st', runAt C N m st = some (ex, st') ∧ (match ex with | .go => RunK C k st' Q | ex => UnwK C ex k st' Q) := by
  constructor
  · rintro ⟨N, ex, st', h, hq⟩
    rw [runI] at h
    cases h1 : runAt C N m st with
    | none => simp [h1] at h
    | some es =>
      obtain ⟨e1, s1⟩ := es
      refine ⟨N, e1, s1, h1, ?_⟩
      cases e1 <;> simp only [h1] at h ⊢ <;> exact ⟨N, ex, st', h, hq⟩
  · rintro ⟨N, e1, s1, h1, h⟩
    cases e1 with
    | go =>
      obtain ⟨N', ex, st', h2, hq⟩ := h
      refine ⟨max N N', ex, st', ?_, hq⟩
      rw [runI, runAt_le C (Nat.le_max_left N N') h1]
      exact runI_le C (Nat.le_max_right N N') _ _ _ h2
    | out id =>
      obtain ⟨N', ex, st', h2, hq⟩ := h
      refine ⟨max N N', ex, st', ?_, hq⟩
      rw [runI, runAt_le C (Nat.le_max_left N N') h1]
      exact unwI_le C (Nat.le_max_right N N') _ _ _ _ h2
    | back =>
      obtain ⟨N', ex, st', h2, hq⟩ := h
      refine ⟨max N N', ex, st', ?_, hq⟩
      rw [runI, runAt_le C (Nat.le_max_left N N') h1]
      exact unwI_le C (Nat.le_max_right N N') _ _ _ _ h2
theorem runK_lp {m : M} : RunK C (.lp m :: k) st Q ↔ RunK C (.code (.loop m) :: k) st Q := by
  constructor
  · rintro ⟨N, ex, st', h, hq⟩
    exact ⟨N, ex, st', by rw [runI] at h; rw [runI]; exact h, hq⟩
  · rintro ⟨N, ex, st', h, hq⟩
    exact ⟨N, ex, st', by rw [runI] at h; rw [runI]; exact h, hq⟩
theorem unwK_nil {ex : Ex} : UnwK C ex [] st Q ↔ Q ex st := by
  constructor
  · rintro ⟨N, ex', st', h, hq⟩
    rw [unwI] at h
    simp only [Option.some.injEq, Prod.mk.injEq] at h
    obtain ⟨rfl, rfl⟩ := h
    exact hq
  · exact fun h => ⟨0, ex, st, by rw [unwI], h⟩
theorem unwK_blk {id j : Nat} : UnwK C (.out id) (.blk j :: k) st Q ↔ (if id = j then RunK C k st Q else UnwK C (.out id) k st Q) := by
  by_cases hj : id = j
  · subst hj
    rw [if_pos rfl]
    constructor
    · rintro ⟨N, ex', st', h, hq⟩
      rw [unwI, show Nat.beq id id = true from Nat.beq_refl id] at h
      exact ⟨N, ex', st', h, hq⟩
    · rintro ⟨N, ex', st', h, hq⟩
      exact ⟨N, ex', st', by rw [unwI, show Nat.beq id id = true from Nat.beq_refl id]; exact h, hq⟩
  · rw [if_neg hj]
    have hb : Nat.beq id j = false := by
      cases hb : Nat.beq id j with
      | false => rfl
      | true => exact absurd (Nat.eq_of_beq_eq_true hb) hj
    constructor
    · rintro ⟨N, ex', st', h, hq⟩
      rw [unwI, hb] at h
      exact ⟨N, ex', st', h, hq⟩
    · rintro ⟨N, ex', st', h, hq⟩
      exact ⟨N, ex', st', by rw [unwI, hb]; exact h, hq⟩
theorem unwK_code {ex : Ex} {m : M} : UnwK C ex (.code m :: k) st Q ↔ UnwK C ex k st Q := by
  have e : ∀ N, unwI C N ex (.code m :: k) st = unwI C N ex k st := by
    intro N
    cases ex <;> (rw [unwI]; all_goals (intros; contradiction))
  constructor <;> rintro ⟨N, ex', st', h, hq⟩
  · exact ⟨N, ex', st', by rw [← e]; exact h, hq⟩
  · exact ⟨N, ex', st', by rw [e]; exact h, hq⟩
theorem unwK_lp {ex : Ex} {m : M} : UnwK C ex (.lp m :: k) st Q ↔ UnwK C ex k st Q := by
  have e : ∀ N, unwI C N ex (.lp m :: k) st = unwI C N ex k st := by
    intro N
    cases ex <;> (rw [unwI]; all_goals (intros; contradiction))
  constructor <;> rintro ⟨N, ex', st', h, hq⟩
  · exact ⟨N, ex', st', by rw [← e]; exact h, hq⟩
  · exact ⟨N, ex', st', by rw [e]; exact h, hq⟩
theorem unwK_ret_blk {j : Nat} : UnwK C .back (.blk j :: k) st Q ↔ UnwK C .back k st Q := by
  have e : ∀ N, unwI C N .back (.blk j :: k) st = unwI C N .back k st := by
    intro N
    rw [unwI]
    all_goals (intros; contradiction)
  constructor <;> rintro ⟨N, ex', st', h, hq⟩
  · exact ⟨N, ex', st', by rw [← e]; exact h, hq⟩
  · exact ⟨N, ex', st', by rw [e]; exact h, hq⟩

theorem runK_skip : RunK C (.code .skip :: k) st Q ↔ RunK C k st Q := by
  rw [runK_code]
  constructor
  · rintro ⟨N, ex, st', h, hq⟩
    cases N with
    | zero => simp [runAt, runM] at h
    | succ N =>
      simp only [runAt, runM, Option.some.injEq, Prod.mk.injEq] at h
      obtain ⟨rfl, rfl⟩ := h
      exact hq
  · exact fun h => ⟨1, .go, st, by simp [runAt, runM], h⟩
theorem runK_exit {id : Nat} : RunK C (.code (.exit id) :: k) st Q ↔ UnwK C (.out id) k st Q := by
  rw [runK_code]
  constructor
  · rintro ⟨N, ex, st', h, hq⟩
    cases N with
    | zero => simp [runAt, runM] at h
    | succ N =>
      simp only [runAt, runM, Option.some.injEq, Prod.mk.injEq] at h
      obtain ⟨rfl, rfl⟩ := h
      exact hq
  · exact fun h => ⟨1, .out id, st, by simp [runAt, runM], h⟩
theorem runK_ret : RunK C (.code .ret :: k) st Q ↔ UnwK C .back k st Q := by
  rw [runK_code]
  constructor
  · rintro ⟨N, ex, st', h, hq⟩
    cases N with
    | zero => simp [runAt, runM] at h
    | succ N =>
      simp only [runAt, runM, Option.some.injEq, Prod.mk.injEq] at h
      obtain ⟨rfl, rfl⟩ := h
      exact hq
  · exact fun h => ⟨1, .back, st, by simp [runAt, runM], h⟩
theorem runAt_succ {N : Nat} {m : M} {r : Ex × St} (h : runM C.T (callQ C N) (callQ.callO C N) (N + 1) m st = some r) : runAt C (N + 1) m st = some r :=
  runM_mono (call_mono C N).1 (call_mono C N).2 _ _ _ _ _ (Nat.le_refl _) h
theorem runAt_pred {N : Nat} {m : M} {r : Ex × St} (h : runAt C N m st = some r) : runM C.T (callQ C N) (callQ.callO C N) (N + 1) m st = some r :=
  runM_mono (fun _ _ _ h => h) (fun _ _ _ _ h => h) _ _ _ _ _ (by omega) h
theorem runK_seq {a b : M} : RunK C (.code (.seq a b) :: k) st Q ↔ RunK C (.code a :: .code b :: k) st Q := by
  rw [runK_code, runK_code]
  constructor
  · rintro ⟨N, ex, st', h, hq⟩
    replace h := runAt_pred h
    simp only [runM] at h
    cases h1 : runM C.T (callQ C N) (callQ.callO C N) N a st with
    | none => simp [h1] at h
    | some es =>
      obtain ⟨e1, s1⟩ := es
      refine ⟨N, e1, s1, h1, ?_⟩
      cases e1 with
      | go =>
        simp only [h1] at h
        exact runK_code.2 ⟨N, ex, st', h, hq⟩
      | out id =>
        simp only [h1, Option.some.injEq, Prod.mk.injEq] at h
        obtain ⟨rfl, rfl⟩ := h
        exact unwK_code.2 hq
      | back =>
        simp only [h1, Option.some.injEq, Prod.mk.injEq] at h
        obtain ⟨rfl, rfl⟩ := h
        exact unwK_code.2 hq
  · rintro ⟨N, e1, s1, h1, h⟩
    cases e1 with
    | go =>
      obtain ⟨N', ex, st', h2, hq⟩ := runK_code.1 h
      refine ⟨max N N' + 1, ex, st', runAt_succ ?_, hq⟩
      have k1 := runAt_le C (Nat.le_max_left N N') h1
      have k2 := runAt_le C (Nat.le_max_right N N') h2
      simp only [runAt] at k1 k2
      simp only [runM, k1, k2]
    | out id =>
      refine ⟨N + 1, .out id, s1, runAt_succ ?_, unwK_code.1 h⟩
      simp only [runAt] at h1
      simp only [runM, h1]
    | back =>
      refine ⟨N + 1, .back, s1, runAt_succ ?_, unwK_code.1 h⟩
      simp only [runAt] at h1
      simp only [runM, h1]
theorem runK_block {id : Nat} {a : M} : RunK C (.code (.block id a) :: k) st Q ↔ RunK C (.code a :: .blk id :: k) st Q := by
  rw [runK_code, runK_code]
  constructor
  · rintro ⟨N, ex, st', h, hq⟩
    replace h := runAt_pred h
    simp only [runM] at h
    cases h1 : runM C.T (callQ C N) (callQ.callO C N) N a st with
    | none => simp [h1] at h
    | some es =>
      obtain ⟨e1, s1⟩ := es
      refine ⟨N, e1, s1, h1, ?_⟩
      cases e1 with
      | go =>
        simp only [h1, Option.some.injEq, Prod.mk.injEq] at h
        obtain ⟨rfl, rfl⟩ := h
        exact runK_blk.2 hq
      | back =>
        simp only [h1, Option.some.injEq, Prod.mk.injEq] at h
        obtain ⟨rfl, rfl⟩ := h
        exact unwK_ret_blk.2 hq
      | out j =>
        simp only [h1] at h
        refine unwK_blk.2 ?_
        by_cases hj : j = id
        · subst hj
          rw [show Nat.beq j j = true from Nat.beq_refl j] at h
          simp only [cond_true, Option.some.injEq, Prod.mk.injEq] at h
          obtain ⟨rfl, rfl⟩ := h
          rw [if_pos rfl]
          exact hq
        · have hb : Nat.beq j id = false := by
            cases hb : Nat.beq j id with
            | false => rfl
            | true => exact absurd (Nat.eq_of_beq_eq_true hb) hj
          rw [hb] at h
          simp only [cond_false, Option.some.injEq, Prod.mk.injEq] at h
          obtain ⟨rfl, rfl⟩ := h
          rw [if_neg hj]
          exact hq
  · rintro ⟨N, e1, s1, h1, h⟩
    simp only [runAt] at h1
    cases e1 with
    | go => exact ⟨N + 1, .go, s1, runAt_succ (by simp only [runM, h1]), runK_blk.1 h⟩
    | back => exact ⟨N + 1, .back, s1, runAt_succ (by simp only [runM, h1]), unwK_ret_blk.1 h⟩
    | out j =>
      replace h := unwK_blk.1 h
      by_cases hj : j = id
      · subst hj
        rw [if_pos rfl] at h
        exact ⟨N + 1, .go, s1, runAt_succ (by simp only [runM, h1, show Nat.beq j j = true from Nat.beq_refl j, cond_true]), h⟩
      · have hb : Nat.beq j id = false := by
          cases hb : Nat.beq j id with
          | false => rfl
          | true => exact absurd (Nat.eq_of_beq_eq_true hb) hj
        rw [if_neg hj] at h
        exact ⟨N + 1, .out j, s1, runAt_succ (by simp only [runM, h1, hb, cond_false]), h⟩
theorem runK_loop {a : M} : RunK C (.code (.loop a) :: k) st Q ↔ RunK C (.code a :: .lp a :: k) st Q := by
  rw [runK_code, runK_code]
  constructor
  · rintro ⟨N, ex, st', h, hq⟩
    replace h := runAt_pred h
    simp only [runM] at h
    cases h1 : runM C.T (callQ C N) (callQ.callO C N) N a st with
    | none => simp [h1] at h
    | some es =>
      obtain ⟨e1, s1⟩ := es
      refine ⟨N, e1, s1, h1, ?_⟩
      cases e1 with
      | go =>
        simp only [h1] at h
        exact runK_lp.2 (runK_code.2 ⟨N, ex, st', h, hq⟩)
      | out id =>
        simp only [h1, Option.some.injEq, Prod.mk.injEq] at h
        obtain ⟨rfl, rfl⟩ := h
        exact unwK_lp.2 hq
      | back =>
        simp only [h1, Option.some.injEq, Prod.mk.injEq] at h
        obtain ⟨rfl, rfl⟩ := h
        exact unwK_lp.2 hq
  · rintro ⟨N, e1, s1, h1, h⟩
    cases e1 with
    | go =>
      obtain ⟨N', ex, st', h2, hq⟩ := runK_code.1 (runK_lp.1 h)
      refine ⟨max N N' + 1, ex, st', runAt_succ ?_, hq⟩
      have k1 := runAt_le C (Nat.le_max_left N N') h1
      have k2 := runAt_le C (Nat.le_max_right N N') h2
      simp only [runAt] at k1 k2
      simp only [runM, k1, k2]
    | out id =>
      refine ⟨N + 1, .out id, s1, runAt_succ ?_, unwK_lp.1 h⟩
      simp only [runAt] at h1
      simp only [runM, h1]
    | back =>
      refine ⟨N + 1, .back, s1, runAt_succ ?_, unwK_lp.1 h⟩
      simp only [runAt] at h1
      simp only [runM, h1]
theorem runK_cond {c : Operand} {a b : M} : RunK C (.code (.cond c a b) :: k) st Q ↔ CondK C (opnd st.env c) a b k st Q := by
  constructor
  · intro h
    obtain ⟨N, ex, st', h, hq⟩ := runK_code.1 h
    replace h := runAt_pred h
    simp only [runM] at h
    split at h
    · rename_i t hc
      exact ⟨t, hc, runK_code.2 ⟨N, ex, st', h, hq⟩⟩
    · cases h
  · rintro ⟨t, hc, h⟩
    obtain ⟨N, ex, st', h, hq⟩ := runK_code.1 h
    refine runK_code.2 ⟨N + 1, ex, st', runAt_succ ?_, hq⟩
    simp only [runAt] at h
    simp only [runM, hc, h]
theorem condK_known {t : Bool} {a b : M} : CondK C (some (.v (.bool t))) a b k st Q ↔ RunK C (.code (bif t then a else b) :: k) st Q := by
  constructor
  · rintro ⟨t', h, hr⟩
    simp only [Option.some.injEq, A.v.injEq, Value.bool.injEq] at h
    subst h
    exact hr
  · exact fun h => ⟨t, rfl, h⟩
theorem runK_reg {keep : List Nat} {ops : List MOp} {n : Nat} : RunK C (.code (.reg keep ops n) :: k) st Q ↔ OpsK C n ops ⟨keepE st.env keep, st.H⟩ k Q := by
  constructor
  · intro h
    obtain ⟨N, ex, st', h, hq⟩ := runK_code.1 h
    replace h := runAt_pred h
    simp only [runM] at h
    cases h1 : runOps C.T (callQ C N) (callQ.callO C N) n ops ⟨keepE st.env keep, st.H⟩ with
    | none => simp [h1] at h
    | some s1 =>
      simp only [h1, Option.some.injEq, Prod.mk.injEq] at h
      obtain ⟨rfl, rfl⟩ := h
      exact ⟨N, s1, h1, hq⟩
  · rintro ⟨N, s1, h1, h⟩
    refine runK_code.2 ⟨N + 1, .go, s1, runAt_succ ?_, h⟩
    simp only [opsAt] at h1
    simp only [runM, h1]
theorem runK_ops {ops : List MOp} : RunK C (.code (.ops ops) :: k) st Q ↔ OpsK C 0 ops st k Q := by
  constructor
  · intro h
    obtain ⟨N, ex, st', h, hq⟩ := runK_code.1 h
    replace h := runAt_pred h
    simp only [runM] at h
    cases h1 : runOps C.T (callQ C N) (callQ.callO C N) 0 ops st with
    | none => simp [h1] at h
    | some s1 =>
      simp only [h1, Option.some.injEq, Prod.mk.injEq] at h
      obtain ⟨rfl, rfl⟩ := h
      exact ⟨N, s1, h1, hq⟩
  · rintro ⟨N, s1, h1, h⟩
    refine runK_code.2 ⟨N + 1, .go, s1, runAt_succ ?_, h⟩
    simp only [opsAt] at h1
    simp only [runM, h1]
theorem runK_again {ops : List MOp} : RunK C (.code (.again ops) :: k) st Q ↔ (againAll C.T st ops = true ∧ RunK C k st Q) := by
  constructor
  · intro h
    obtain ⟨N, ex, st', h, hq⟩ := runK_code.1 h
    replace h := runAt_pred h
    simp only [runM] at h
    cases h1 : againAll C.T st ops with
    | false => simp [h1] at h
    | true =>
      simp only [h1, cond_true, Option.some.injEq, Prod.mk.injEq] at h
      obtain ⟨rfl, rfl⟩ := h
      exact ⟨rfl, hq⟩
  · rintro ⟨h1, h⟩
    refine runK_code.2 ⟨1, .go, st, runAt_succ ?_, h⟩
    simp only [runM, h1, cond_true]
end
end Go.Proofs.YtijpomemobgddaaGreatDoor.Ev
namespace Go.Proofs.YtijpomemobgddaaGreatDoor.Ev
open Go Go.RowKit

/-- Operations that touch live blocks. -/
def isLoud : Op → Bool
  | .alloc _ | .box _ _ | .buildSlice _ _ _ | .store _ _ _ | .makeSlice _ _ _ | .insert _ _ _ _ | .mapUpdate _ _ _ _ | .mapEntry _ _ _ | .entryStore _ _ _ _ | .makeMap _ _ | .range _ _ | .next _ _ => true
  | .call c => match c.callee with
    | .builtin .append | .builtin .copy | .builtin .unsafeString => true
    | _ => false
  | _ => false
theorem loud_none {T : Tb} {e : Env} {H : Heap} {op : Op} (h : isLoud op = false) : loudOp T e H op = none := by
  cases op <;> first
    | rfl
    | (simp [isLoud] at h; done)
    | skip
  case call c =>
    cases hc : c.callee with
    | builtin b => cases b <;> simp [isLoud, hc] at h <;> simp [loudOp, hc]
    | value f => simp [loudOp, hc]
    | invoke a b => simp [loudOp, hc]
theorem quiet_none {T : Tb} {e : Env} {H : Heap} {op : Op} (h : isLoud op = true) : quietOp T e H op = none := by
  cases op <;> first
    | rfl
    | (simp [isLoud] at h; done)
    | skip
  case call c =>
    cases hc : c.callee with
    | builtin b => cases b <;> simp [isLoud, hc] at h <;> simp [quietOp, hc]
    | value f => simp [isLoud, hc] at h
    | invoke a b => simp [isLoud, hc] at h

section
variable (C : Ctx)
/-- An operation has given its value (and these live blocks). -/
def HeapK (r : Option (A × Heap)) (dst : Option Nat) (ms : List MOp) (e : Env) (k : List It) (Q : Ex → St → Prop) : Prop := ∃ x H', r = some (x, H') ∧ OpsK C 0 ms ⟨put e dst x, H'⟩ k Q
def QuietK (r : Option A) (dst : Option Nat) (n : Nat) (ms : List MOp) (st : St) (k : List It) (Q : Ex → St → Prop) : Prop := ∃ x, r = some x ∧ OpsK C n ms ⟨put st.env dst x, st.H⟩ k Q
/-- A call whose arguments are held. -/
def QK (f : FuncId) (as : List A) (b : Bool) (dst : Option Nat) (n : Nat) (ms : List MOp) (st : St) (k : List It) (Q : Ex → St → Prop) : Prop := ∃ r, EvQ C f as r ∧ (b || flat r) = true ∧ OpsK C n ms ⟨put st.env dst r, st.H⟩ k Q
def LentK (f : FuncId) (l : Option (List A)) (b : Bool) (dst : Option Nat) (n : Nat) (ms : List MOp) (st : St) (k : List It) (Q : Ex → St → Prop) : Prop := ∃ as, l = some as ∧ QK C f as b dst n ms st k Q
/-- A call that goes on with the caller's live blocks. -/
def PassK (f : FuncId) (as : List A) (dst : Option Nat) (ms : List MOp) (st : St) (k : List It) (Q : Ex → St → Prop) : Prop := ∃ x H', EvO C f as st.H x H' ∧ OpsK C 0 ms ⟨put st.env dst x, H'⟩ k Q
/-- A round. -/
def YlK (b : Nat) (as : List A) (dst : Option Nat) (ms : List MOp) (st : St) (k : List It) (Q : Ex → St → Prop) : Prop := ∃ x H', EvY C b as st.H x H' ∧ OpsK C 0 ms ⟨put st.env dst x, H'⟩ k Q
def AnyK (cs : Option (Tgt × List A)) (l : Bool) (op : Op) (dst : Option Nat) (ms : List MOp) (st : St) (k : List It) (Q : Ex → St → Prop) : Prop :=
  match cs, l with
  | none, true => HeapK C (loudOp C.T st.env st.H op) dst ms st.env k Q
  | none, false => QuietK C (quietOp C.T st.env st.H op) dst 0 ms st k Q
  | some (.fn f, as), _ => PassK C f as dst ms st k Q
  | some (.yl b, as), _ => YlK C b as dst ms st k Q
def litQ (T : Tb) (e : Env) : Op → Option A
  | .buildSlice t len parts => match litCells T e t len parts with
    | some (_, _, cs) => if (shut.shutL cs) && ones cs then some (.sl len cs) else none
    | none => none
  | _ => none
def isLit : Op → Bool
  | .buildSlice _ _ _ => true
  | _ => false
def FreeK (cs : Option (Tgt × List A)) (l : Bool) (op : Op) (dst : Option Nat) (n : Nat) (ms : List MOp) (st : St) (k : List It) (Q : Ex → St → Prop) : Prop :=
  match cs, l with
  | none, true => QuietK C (litQ C.T st.env op) dst n ms st k Q
  | none, false => QuietK C (quietOp C.T st.env st.H op) dst n ms st k Q
  | some (.fn f, as), _ => LentK C f (lendL st.H as) (as.all shut) dst n ms st k Q
  | some (.yl _, _), _ => False
def WantK (w : Option Bool) (n : Nat) (m : MOp) (ms : List MOp) (st : St) (k : List It) (Q : Ex → St → Prop) : Prop :=
  match w, n with
  | none, _ => False
  | some false, n => OpsK C (n - 1) ms ⟨put st.env m.dst (.v undef), st.H⟩ k Q
  | some true, 0 => AnyK C (calls st.env m.op) (isLoud m.op) m.op m.dst ms st k Q
  | some true, n + 1 => FreeK C (calls st.env m.op) (isLit m.op) m.op m.dst n ms st k Q
section
variable {C : Ctx} {f : FuncId} {as : List A} {l : Bool} {op : Op} {dst : Option Nat} {n : Nat} {m : MOp} {ms : List MOp} {st : St} {k : List It} {Q : Ex → St → Prop}
theorem wantK_no : WantK C (some false) n m ms st k Q ↔ OpsK C (n - 1) ms ⟨put st.env m.dst (.v undef), st.H⟩ k Q := by cases n <;> exact Iff.rfl
theorem wantK_yes : WantK C (some true) 0 m ms st k Q ↔ AnyK C (calls st.env m.op) (isLoud m.op) m.op m.dst ms st k Q := Iff.rfl
theorem wantK_free {j : Nat} (h : 0 < j) : WantK C (some true) j m ms st k Q ↔ FreeK C (calls st.env m.op) (isLit m.op) m.op m.dst (j - 1) ms st k Q := by
  cases j with
  | zero => omega
  | succ n => exact Iff.rfl
theorem anyK_loud : AnyK C none true op dst ms st k Q ↔ HeapK C (loudOp C.T st.env st.H op) dst ms st.env k Q := Iff.rfl
theorem anyK_quiet : AnyK C none false op dst ms st k Q ↔ QuietK C (quietOp C.T st.env st.H op) dst 0 ms st k Q := Iff.rfl
theorem anyK_yl {b : Nat} : AnyK C (some (.yl b, as)) l op dst ms st k Q ↔ YlK C b as dst ms st k Q := by cases l <;> exact Iff.rfl
theorem anyK_call : AnyK C (some (.fn f, as)) l op dst ms st k Q ↔ PassK C f as dst ms st k Q := by cases l <;> exact Iff.rfl
theorem freeK_lit : FreeK C none true op dst n ms st k Q ↔ QuietK C (litQ C.T st.env op) dst n ms st k Q := Iff.rfl
theorem freeK_quiet : FreeK C none false op dst n ms st k Q ↔ QuietK C (quietOp C.T st.env st.H op) dst n ms st k Q := Iff.rfl
theorem freeK_call : FreeK C (some (.fn f, as)) l op dst n ms st k Q ↔ LentK C f (lendL st.H as) (as.all shut) dst n ms st k Q := by cases l <;> exact Iff.rfl
end
end

section
variable {C : Ctx} {k : List It} {st : St} {e : Env} {H : Heap} {Q : Ex → St → Prop} {dst : Option Nat} {ms : List MOp} {n : Nat}
theorem opsK_nil : OpsK C n [] st k Q ↔ RunK C k st Q := by
  constructor
  · rintro ⟨N, st', h, hr⟩
    simp only [opsAt, runOps, Option.some.injEq] at h
    subst h
    exact hr
  · exact fun h => ⟨0, st, by simp [opsAt, runOps], h⟩
theorem heapK_some {x : A} {H' : Heap} : HeapK C (some (x, H')) dst ms e k Q ↔ OpsK C 0 ms ⟨put e dst x, H'⟩ k Q := by
  constructor
  · rintro ⟨y, H1, h, hr⟩
    simp only [Option.some.injEq, Prod.mk.injEq] at h
    obtain ⟨rfl, rfl⟩ := h
    exact hr
  · exact fun h => ⟨x, H', rfl, h⟩
theorem quietK_some {x : A} : QuietK C (some x) dst n ms st k Q ↔ OpsK C n ms ⟨put st.env dst x, st.H⟩ k Q := by
  constructor
  · rintro ⟨y, h, hr⟩
    simp only [Option.some.injEq] at h
    subst h
    exact hr
  · exact fun h => ⟨x, rfl, h⟩
theorem lentK_some {f : FuncId} {as : List A} {b : Bool} : LentK C f (some as) b dst n ms st k Q ↔ QK C f as b dst n ms st k Q := by
  constructor
  · rintro ⟨y, h, hr⟩
    simp only [Option.some.injEq] at h
    subst h
    exact hr
  · exact fun h => ⟨as, rfl, h⟩
/-- A contract in use. -/
theorem QK.use {f : FuncId} {as : List A} {r : A} (h : EvQ C f as r) {b : Bool} : QK C f as b dst n ms st k Q ↔ ((b || flat r) = true ∧ OpsK C n ms ⟨put st.env dst r, st.H⟩ k Q) := by
  constructor
  · rintro ⟨r', h', hb, hr⟩
    obtain rfl := h.one h'
    exact ⟨hb, hr⟩
  · rintro ⟨hb, hr⟩
    exact ⟨r, h, hb, hr⟩
theorem opsAt_succ {N : Nat} {st' : St} (h : runOps C.T (callQ C N) (callQ.callO C N) n ms st = some st') : opsAt C N n ms st = some st' := h
theorem opsK_cons {m : MOp} : OpsK C n (m :: ms) st k Q ↔ WantK C (wants st.env m.guard) n m ms st k Q := by
  cases hw : wants st.env m.guard with
  | none =>
    constructor
    · rintro ⟨N, st', h, hr⟩
      simp [opsAt, runOps, hw] at h
    · exact fun h => h.elim
  | some b =>
    cases b with
    | false =>
      constructor
      · rintro ⟨N, st', h, hr⟩
        simp only [opsAt, runOps, hw] at h
        exact ⟨N, st', h, hr⟩
      · rintro ⟨N, st', h, hr⟩
        exact ⟨N, st', by simp only [opsAt, runOps, hw]; exact h, hr⟩
    | true =>
      cases n with
      | zero =>
        cases hc : calls st.env m.op with
        | none =>
          have ha : ∀ N, anyOp C.T (callQ.callO C N) st m.op = (bif isLoud m.op then loudOp C.T st.env st.H m.op else (quietOp C.T st.env st.H m.op).map fun a => (a, st.H)) := by
            intro N
            unfold anyOp
            simp only [hc]
            cases hl : isLoud m.op with
            | true =>
              rw [quiet_none hl]
              cases loudOp C.T st.env st.H m.op <;> rfl
            | false => rw [loud_none hl]; rfl
          cases hl : isLoud m.op with
          | true =>
            simp only [WantK, AnyK, hc, hl]
            simp only [hl, cond_true] at ha
            constructor
            · rintro ⟨N, st', h, hr⟩
              simp only [opsAt, runOps, hw, ha] at h
              cases hlo : loudOp C.T st.env st.H m.op with
              | none => simp [hlo] at h
              | some r =>
                obtain ⟨x, H'⟩ := r
                simp only [hlo] at h
                exact ⟨x, H', rfl, N, st', h, hr⟩
            · rintro ⟨x, H', hlo, N, st', h, hr⟩
              exact ⟨N, st', by simp only [opsAt, runOps, hw, ha, hlo]; exact h, hr⟩
          | false =>
            simp only [WantK, AnyK, hc, hl]
            simp only [hl, cond_false] at ha
            constructor
            · rintro ⟨N, st', h, hr⟩
              simp only [opsAt, runOps, hw, ha] at h
              cases hlo : quietOp C.T st.env st.H m.op with
              | none => simp [hlo] at h
              | some x =>
                simp only [hlo, Option.map_some] at h
                exact ⟨x, rfl, N, st', h, hr⟩
            · rintro ⟨x, hlo, N, st', h, hr⟩
              exact ⟨N, st', by simp only [opsAt, runOps, hw, ha, hlo, Option.map_some]; exact h, hr⟩
        | some fa =>
          obtain ⟨f | b0, as⟩ := fa
          rotate_left
          · simp only [WantK, AnyK, hc]
            constructor
            · rintro ⟨N, st', h, hr⟩
              simp only [opsAt, runOps, hw, anyOp, hc] at h
              cases ho : callQ.callO C N (.yl b0) as st.H with
              | none => simp [ho] at h
              | some r =>
                obtain ⟨x, H'⟩ := r
                simp only [ho] at h
                exact ⟨x, H', ⟨N, ho⟩, N, st', h, hr⟩
            · rintro ⟨x, H', ⟨N, ho⟩, N', st', h, hr⟩
              refine ⟨max N N', st', ?_, hr⟩
              have h1 := callO_le C (Nat.le_max_left N N') _ _ _ _ ho
              have h2 := opsAt_le C (Nat.le_max_right N N') h
              simp only [opsAt] at h2
              simp only [opsAt, runOps, hw, anyOp, hc, h1, h2]
          simp only [WantK, AnyK, hc]
          constructor
          · rintro ⟨N, st', h, hr⟩
            simp only [opsAt, runOps, hw, anyOp, hc] at h
            cases ho : callQ.callO C N (.fn f) as st.H with
            | none => simp [ho] at h
            | some r =>
              obtain ⟨x, H'⟩ := r
              simp only [ho] at h
              exact ⟨x, H', ⟨N, ho⟩, N, st', h, hr⟩
          · rintro ⟨x, H', ⟨N, ho⟩, N', st', h, hr⟩
            refine ⟨max N N', st', ?_, hr⟩
            have h1 := callO_le C (Nat.le_max_left N N') _ _ _ _ ho
            have h2 := opsAt_le C (Nat.le_max_right N N') h
            simp only [opsAt] at h2
            simp only [opsAt, runOps, hw, anyOp, hc, h1, h2]
      | succ n =>
        cases hc : calls st.env m.op with
        | none =>
          have ha : ∀ N, freeOp C.T (callQ C N) st m.op = (bif isLit m.op then litQ C.T st.env m.op else quietOp C.T st.env st.H m.op) := by
            intro N
            unfold freeOp
            simp only [hc]
            cases m.op <;> rfl
          cases hl : isLit m.op with
          | true =>
            simp only [WantK, FreeK, hc, hl]
            simp only [hl, cond_true] at ha
            constructor
            · rintro ⟨N, st', h, hr⟩
              simp only [opsAt, runOps, hw, ha] at h
              cases hlo : litQ C.T st.env m.op with
              | none => simp [hlo] at h
              | some x =>
                simp only [hlo] at h
                exact ⟨x, rfl, N, st', h, hr⟩
            · rintro ⟨x, hlo, N, st', h, hr⟩
              exact ⟨N, st', by simp only [opsAt, runOps, hw, ha, hlo]; exact h, hr⟩
          | false =>
            simp only [WantK, FreeK, hc, hl]
            simp only [hl, cond_false] at ha
            constructor
            · rintro ⟨N, st', h, hr⟩
              simp only [opsAt, runOps, hw, ha] at h
              cases hlo : quietOp C.T st.env st.H m.op with
              | none => simp [hlo] at h
              | some x =>
                simp only [hlo] at h
                exact ⟨x, rfl, N, st', h, hr⟩
            · rintro ⟨x, hlo, N, st', h, hr⟩
              exact ⟨N, st', by simp only [opsAt, runOps, hw, ha, hlo]; exact h, hr⟩
        | some fa =>
          obtain ⟨f | b0, as⟩ := fa
          rotate_left
          · simp only [WantK, FreeK, hc]
            constructor
            · rintro ⟨N, st', h, hr⟩
              simp [opsAt, runOps, hw, freeOp, hc] at h
            · exact fun h => h.elim
          simp only [WantK, FreeK, hc]
          constructor
          · rintro ⟨N, st', h, hr⟩
            simp only [opsAt, runOps, hw, freeOp, hc] at h
            cases hl : lendL st.H as with
            | none => simp [hl] at h
            | some as' =>
              simp only [hl] at h
              cases hq : callQ C N f as' with
              | none => simp [hq] at h
              | some r =>
                simp only [hq] at h
                by_cases hb : (as.all shut || flat r) = true
                · rw [if_pos hb] at h
                  exact ⟨as', rfl, r, ⟨N, hq⟩, hb, N, st', h, hr⟩
                · rw [if_neg hb] at h
                  simp at h
          · rintro ⟨as', hl, r, ⟨N, hq⟩, hb, N', st', h, hr⟩
            refine ⟨max N N', st', ?_, hr⟩
            have h1 := callQ_le C (Nat.le_max_left N N') _ _ _ hq
            have h2 := opsAt_le C (Nat.le_max_right N N') h
            simp only [opsAt] at h2
            simp only [opsAt, runOps, hw, freeOp, hc, hl, h1, hb, if_true, h2]

/-- A call of a function whose arguments are held. -/
theorem passK_shut {f : FuncId} {as : List A} (hp : isPass C f = false) (hO : C.XO f = none := by rfl) (hT : isTrim C f = false := by rfl) : PassK C f as dst ms st k Q ↔ LentK C f (lendL st.H as) (as.all shut) dst 0 ms st k Q := by
  constructor
  · rintro ⟨x, H', ⟨N, h⟩, hr⟩
    cases N with
    | zero => simp [callQ.callO] at h
    | succ N =>
      simp only [callQ.callO, hO, hp, hT, cond_false] at h
      cases hl : lendL st.H as with
      | none => simp [hl] at h
      | some as' =>
        simp only [hl] at h
        cases hq : callQ C N f as' with
        | none => simp [hq] at h
        | some r =>
          simp only [hq] at h
          split at h
          · rename_i hsf
            simp only [Option.some.injEq, Prod.mk.injEq] at h
            obtain ⟨rfl, rfl⟩ := h
            exact ⟨as', rfl, r, ⟨N, hq⟩, hsf, hr⟩
          · cases h
  · rintro ⟨as', hl, r, ⟨N, h⟩, hsf, hr⟩
    exact ⟨r, st.H, ⟨N + 1, by simp only [callQ.callO, hO, hp, hT, cond_false, hl, h, hsf, if_true]⟩, hr⟩

/-- What is asked at the end of a body that gives its caller a value, held. -/
def FinQ (T : Tb) (md : Mode) (res : List ResultVar) (r : A) (ex : Ex) (st : St) : Prop :=
  match ex with
  | .out _ => False
  | _ => (result T st res).bind (holdR md st.H) = some r
/-- A function's answer, out of its body's run. -/
theorem evQ_ext {f : FuncId} {as : List A} {r : A} (h : C.X f as = some r) : EvQ C f as r := ⟨1, by simp only [callQ, h]⟩
theorem evQ_of {f : FuncId} {m : MFn} {as : List A} {r : A} (hB : C.B f = some m) (hX : C.X f as = none) (hl : as.length ≤ m.nt) (h : RunK C [.code m.body] ⟨argE 0 as, []⟩ (FinQ C.T m.mode m.res r)) : EvQ C f as r := by
  obtain ⟨N, ex, st', h1, hq⟩ := runK_code.1 h
  have hfin : ∀ (ex : Ex), ex = .go ∨ ex = .back → runAt C N m.body ⟨argE 0 as, []⟩ = some (ex, st') → (result C.T st' m.res).bind (holdR m.mode st'.H) = some r → EvQ C f as r := by
    intro ex hex h1 h2
    cases hr : result C.T st' m.res with
    | none => simp [hr] at h2
    | some a =>
      simp only [hr, Option.bind_some] at h2
      refine ⟨N + 1, ?_⟩
      simp only [runAt] at h1
      rcases hex with rfl | rfl <;> simp only [callQ, hX, hB, runBody, if_pos hl, h1, hr, h2]
  cases ex with
  | go => exact hfin .go (.inl rfl) h1 (by simpa [runK_nil, FinQ] using hq)
  | back => exact hfin .back (.inr rfl) h1 (by simpa [unwK_nil, FinQ] using hq)
  | out id => exact (unwK_nil.1 hq).elim

/-- The caller goes on when a body that works on its live blocks has ended. -/
def RetK (C : Ctx) (res : List ResultVar) (dst : Option Nat) (ms : List MOp) (e : Env) (k : List It) (Q : Ex → St → Prop) (ex : Ex) (st : St) : Prop :=
  match ex with
  | .out _ => False
  | _ => HeapK C ((result C.T st res).map fun a => (a, st.H)) dst ms e k Q
theorem retK_go {res : List ResultVar} : RetK C res dst ms e k Q .go st ↔ HeapK C ((result C.T st res).map fun a => (a, st.H)) dst ms e k Q := Iff.rfl
theorem retK_back {res : List ResultVar} : RetK C res dst ms e k Q .back st ↔ HeapK C ((result C.T st res).map fun a => (a, st.H)) dst ms e k Q := Iff.rfl
theorem passK_pass {f : FuncId} {as : List A} {m : MFn} (hB : C.B f = some m) (hp : isPass C f = true) (hl : as.length ≤ m.nt) (hO : C.XO f = none := by rfl) :
    PassK C f as dst ms st k Q ↔ RunK C [.code m.body] ⟨argE 0 as, st.H⟩ (RetK C m.res dst ms st.env k Q) := by
  constructor
  · rintro ⟨x, H', ⟨N, h⟩, hr⟩
    cases N with
    | zero => simp [callQ.callO] at h
    | succ N =>
      simp only [callQ.callO, hO, hp, cond_true, hB, runBody, if_pos hl] at h
      have fin : ∀ (ex : Ex) (s1 : St), ex = .go ∨ ex = .back → runM C.T (callQ C N) (callQ.callO C N) N m.body ⟨argE 0 as, st.H⟩ = some (ex, s1) → (match result C.T s1 m.res with | some a => some (a, s1.H) | none => none) = some (x, H') → RunK C [.code m.body] ⟨argE 0 as, st.H⟩ (RetK C m.res dst ms st.env k Q) := by
        intro ex s1 hex h1 h2
        cases hr2 : result C.T s1 m.res with
        | none => simp [hr2] at h2
        | some a =>
          simp only [hr2, Option.some.injEq, Prod.mk.injEq] at h2
          obtain ⟨rfl, rfl⟩ := h2
          refine runK_code.2 ⟨N, ex, s1, h1, ?_⟩
          rcases hex with rfl | rfl
          · exact runK_nil.2 (retK_go.2 ⟨a, s1.H, by simp [hr2], hr⟩)
          · exact unwK_nil.2 (retK_back.2 ⟨a, s1.H, by simp [hr2], hr⟩)
      split at h
      · rename_i s1 h1
        exact fin _ s1 (.inl rfl) h1 h
      · rename_i s1 h1
        exact fin _ s1 (.inr rfl) h1 h
      · cases h
  · intro h
    obtain ⟨N, ex, s1, h1, hq⟩ := runK_code.1 h
    simp only [runAt] at h1
    have fin : ∀ (ex : Ex), ex = .go ∨ ex = .back → runM C.T (callQ C N) (callQ.callO C N) N m.body ⟨argE 0 as, st.H⟩ = some (ex, s1) → HeapK C ((result C.T s1 m.res).map fun a => (a, s1.H)) dst ms st.env k Q → PassK C f as dst ms st k Q := by
      rintro ex hex h1 ⟨x, H', h2, hr⟩
      cases hr2 : result C.T s1 m.res with
      | none => simp [hr2] at h2
      | some a =>
        simp only [hr2, Option.map_some, Option.some.injEq, Prod.mk.injEq] at h2
        obtain ⟨rfl, rfl⟩ := h2
        refine ⟨a, s1.H, ⟨N + 1, ?_⟩, hr⟩
        rcases hex with rfl | rfl <;> simp only [callQ.callO, hO, hp, cond_true, hB, runBody, if_pos hl, h1, hr2]
    cases ex with
    | go => exact fin .go (.inl rfl) h1 (retK_go.1 (runK_nil.1 hq))
    | back => exact fin .back (.inr rfl) h1 (retK_back.1 (unwK_nil.1 hq))
    | out id => exact (unwK_nil.1 hq).elim
end

/-- THE LAW: what the evaluator says a function gives, the program's call gives. -/
theorem EvQ.calls {P : Program} {C : Ctx} (hC : CtxOk P C) {f : FuncId} {m : MFn} (hB : C.B f = some m) {as : List A} {r : A} (h : EvQ C f as r) (w : World) (ys : List Value) (hg : Gl C.T.gl (fun _ => False) w) (hr : RL [] (fun _ => False) w as ys) :
    Go.Calls P f ys.toArray w fun e w' => ∃ v, e = .returned v ∧ Grow w w' ∧ R [] (fun _ => False) w' r v := by
  obtain ⟨N, h⟩ := h
  rcases (call_sound hC N).1 f as r h with hat | ⟨-, hcall⟩
  · obtain ⟨v, h1, -⟩ := hat _ _ w ys hr
    rw [hC.enters hB] at h1
    cases h1
  · exact hcall _ w ys (fun g hg => hg.elim) hg hr
end Go.Proofs.YtijpomemobgddaaGreatDoor.Ev
