/- The evaluator without counts of steps: operations and calls; a function's answer out of its body's run; the law that joins it to the program. -/
import Derived.Test.YtkpolehpdgnliaaE20
set_option linter.unusedSimpArgs false
set_option linter.unusedVariables false
namespace Go.Proofs.Ytkpolehpdgnliaa.Ev
open Go Go.RowKit

/-- Operations that touch live blocks. -/
def isLoud : Op → Bool
  | .alloc _ | .box _ _ | .buildSlice _ _ _ | .store _ _ _ | .makeSlice _ _ _ | .insert _ _ _ _ | .mapUpdate _ _ _ _ | .makeMap _ _ => true
  | .call c => match c.callee with
    | .builtin .append | .builtin .copy => true
    | _ => false
  | _ => false
theorem loud_none {T : Tb} {e : Env} {H : Heap} {op : Op} (h : isLoud op = false) : loudOp T e H op = none := by
  cases op <;> first
    | rfl
    | (simp [isLoud] at h; done)
    | skip
  case call c =>
    cases hc : c.callee with
    | builtin b => cases b <;> simp [isLoud, hc] at h <;> simp [loudOp, hc]
    | value f => simp [loudOp, hc]
    | invoke a b => simp [loudOp, hc]
theorem quiet_none {T : Tb} {e : Env} {H : Heap} {op : Op} (h : isLoud op = true) : quietOp T e H op = none := by
  cases op <;> first
    | rfl
    | (simp [isLoud] at h; done)
    | skip
  case call c =>
    cases hc : c.callee with
    | builtin b => cases b <;> simp [isLoud, hc] at h <;> simp [quietOp, hc]
    | value f => simp [isLoud, hc] at h
    | invoke a b => simp [isLoud, hc] at h

section
variable (C : Ctx)
/-- An operation has given its value (and these live blocks). -/
def HeapK (r : Option (A × Heap)) (dst : Option Nat) (ms : List MOp) (e : Env) (k : List It) (Q : Ex → St → Prop) : Prop := ∃ x H', r = some (x, H') ∧ OpsK C 0 ms ⟨put e dst x, H'⟩ k Q
def QuietK (r : Option A) (dst : Option Nat) (n : Nat) (ms : List MOp) (st : St) (k : List It) (Q : Ex → St → Prop) : Prop := ∃ x, r = some x ∧ OpsK C n ms ⟨put st.env dst x, st.H⟩ k Q
/-- A call whose arguments are held. -/
def QK (f : FuncId) (as : List A) (b : Bool) (dst : Option Nat) (n : Nat) (ms : List MOp) (st : St) (k : List It) (Q : Ex → St → Prop) : Prop := ∃ r, EvQ C f as r ∧ (b || flat r) = true ∧ OpsK C n ms ⟨put st.env dst r, st.H⟩ k Q
def LentK (f : FuncId) (l : Option (List A)) (b : Bool) (dst : Option Nat) (n : Nat) (ms : List MOp) (st : St) (k : List It) (Q : Ex → St → Prop) : Prop := ∃ as, l = some as ∧ QK C f as b dst n ms st k Q
/-- A call that goes on with the caller's live blocks. -/
def PassK (f : FuncId) (as : List A) (dst : Option Nat) (ms : List MOp) (st : St) (k : List It) (Q : Ex → St → Prop) : Prop := ∃ x H', EvO C f as st.H x H' ∧ OpsK C 0 ms ⟨put st.env dst x, H'⟩ k Q
def AnyK (cs : Option (FuncId × List A)) (l : Bool) (op : Op) (dst : Option Nat) (ms : List MOp) (st : St) (k : List It) (Q : Ex → St → Prop) : Prop :=
  match cs, l with
  | none, true => HeapK C (loudOp C.T st.env st.H op) dst ms st.env k Q
  | none, false => QuietK C (quietOp C.T st.env st.H op) dst 0 ms st k Q
  | some (f, as), _ => PassK C f as dst ms st k Q
def litQ (T : Tb) (e : Env) : Op → Option A
  | .buildSlice t len parts => match litCells T e t len parts with
    | some (_, _, cs) => if (shut.shutL cs) && ones cs then some (.sl len cs) else none
    | none => none
  | _ => none
def isLit : Op → Bool
  | .buildSlice _ _ _ => true
  | _ => false
def FreeK (cs : Option (FuncId × List A)) (l : Bool) (op : Op) (dst : Option Nat) (n : Nat) (ms : List MOp) (st : St) (k : List It) (Q : Ex → St → Prop) : Prop :=
  match cs, l with
  | none, true => QuietK C (litQ C.T st.env op) dst n ms st k Q
  | none, false => QuietK C (quietOp C.T st.env st.H op) dst n ms st k Q
  | some (f, as), _ => LentK C f (lendL st.H as) (as.all shut) dst n ms st k Q
def WantK (w : Option Bool) (n : Nat) (m : MOp) (ms : List MOp) (st : St) (k : List It) (Q : Ex → St → Prop) : Prop :=
  match w, n with
  | none, _ => False
  | some false, n => OpsK C (n - 1) ms ⟨put st.env m.dst (.v undef), st.H⟩ k Q
  | some true, 0 => AnyK C (calls st.env m.op) (isLoud m.op) m.op m.dst ms st k Q
  | some true, n + 1 => FreeK C (calls st.env m.op) (isLit m.op) m.op m.dst n ms st k Q
section
variable {C : Ctx} {f : FuncId} {as : List A} {l : Bool} {op : Op} {dst : Option Nat} {n : Nat} {m : MOp} {ms : List MOp} {st : St} {k : List It} {Q : Ex → St → Prop}
theorem wantK_no : WantK C (some false) n m ms st k Q ↔ OpsK C (n - 1) ms ⟨put st.env m.dst (.v undef), st.H⟩ k Q := by cases n <;> exact Iff.rfl
theorem wantK_yes : WantK C (some true) 0 m ms st k Q ↔ AnyK C (calls st.env m.op) (isLoud m.op) m.op m.dst ms st k Q := Iff.rfl
theorem wantK_free {j : Nat} (h : 0 < j) : WantK C (some true) j m ms st k Q ↔ FreeK C (calls st.env m.op) (isLit m.op) m.op m.dst (j - 1) ms st k Q := by
  cases j with
  | zero => omega
  | succ n => exact Iff.rfl
theorem anyK_loud : AnyK C none true op dst ms st k Q ↔ HeapK C (loudOp C.T st.env st.H op) dst ms st.env k Q := Iff.rfl
theorem anyK_quiet : AnyK C none false op dst ms st k Q ↔ QuietK C (quietOp C.T st.env st.H op) dst 0 ms st k Q := Iff.rfl
theorem anyK_call : AnyK C (some (f, as)) l op dst ms st k Q ↔ PassK C f as dst ms st k Q := by cases l <;> exact Iff.rfl
theorem freeK_lit : FreeK C none true op dst n ms st k Q ↔ QuietK C (litQ C.T st.env op) dst n ms st k Q := Iff.rfl
theorem freeK_quiet : FreeK C none false op dst n ms st k Q ↔ QuietK C (quietOp C.T st.env st.H op) dst n ms st k Q := Iff.rfl
theorem freeK_call : FreeK C (some (f, as)) l op dst n ms st k Q ↔ LentK C f (lendL st.H as) (as.all shut) dst n ms st k Q := by cases l <;> exact Iff.rfl
end
end

section
variable {C : Ctx} {k : List It} {st : St} {e : Env} {H : Heap} {Q : Ex → St → Prop} {dst : Option Nat} {ms : List MOp} {n : Nat}
theorem opsK_nil : OpsK C n [] st k Q ↔ RunK C k st Q := by
  constructor
  · rintro ⟨N, st', h, hr⟩
    simp only [opsAt, runOps, Option.some.injEq] at h
    subst h
    exact hr
  · exact fun h => ⟨0, st, by simp [opsAt, runOps], h⟩
theorem heapK_some {x : A} {H' : Heap} : HeapK C (some (x, H')) dst ms e k Q ↔ OpsK C 0 ms ⟨put e dst x, H'⟩ k Q := by
  constructor
  · rintro ⟨y, H1, h, hr⟩
    simp only [Option.some.injEq, Prod.mk.injEq] at h
    obtain ⟨rfl, rfl⟩ := h
    exact hr
  · exact fun h => ⟨x, H', rfl, h⟩
theorem quietK_some {x : A} : QuietK C (some x) dst n ms st k Q ↔ OpsK C n ms ⟨put st.env dst x, st.H⟩ k Q := by
  constructor
  · rintro ⟨y, h, hr⟩
    simp only [Option.some.injEq] at h
    subst h
    exact hr
  · exact fun h => ⟨x, rfl, h⟩
theorem lentK_some {f : FuncId} {as : List A} {b : Bool} : LentK C f (some as) b dst n ms st k Q ↔ QK C f as b dst n ms st k Q := by
  constructor
  · rintro ⟨y, h, hr⟩
    simp only [Option.some.injEq] at h
    subst h
    exact hr
  · exact fun h => ⟨as, rfl, h⟩
/-- A contract in use. -/
theorem QK.use {f : FuncId} {as : List A} {r : A} (h : EvQ C f as r) {b : Bool} : QK C f as b dst n ms st k Q ↔ ((b || flat r) = true ∧ OpsK C n ms ⟨put st.env dst r, st.H⟩ k Q) := by
  constructor
  · rintro ⟨r', h', hb, hr⟩
    obtain rfl := h.one h'
    exact ⟨hb, hr⟩
  · rintro ⟨hb, hr⟩
    exact ⟨r, h, hb, hr⟩
theorem opsAt_succ {N : Nat} {st' : St} (h : runOps C.T (callQ C N) (callQ.callO C N) n ms st = some st') : opsAt C N n ms st = some st' := h
theorem opsK_cons {m : MOp} : OpsK C n (m :: ms) st k Q ↔ WantK C (wants st.env m.guard) n m ms st k Q := by
  cases hw : wants st.env m.guard with
  | none =>
    constructor
    · rintro ⟨N, st', h, hr⟩
      simp [opsAt, runOps, hw] at h
    · exact fun h => h.elim
  | some b =>
    cases b with
    | false =>
      constructor
      · rintro ⟨N, st', h, hr⟩
        simp only [opsAt, runOps, hw] at h
        exact ⟨N, st', h, hr⟩
      · rintro ⟨N, st', h, hr⟩
        exact ⟨N, st', by simp only [opsAt, runOps, hw]; exact h, hr⟩
    | true =>
      cases n with
      | zero =>
        cases hc : calls st.env m.op with
        | none =>
          have ha : ∀ N, anyOp C.T (callQ.callO C N) st m.op = (bif isLoud m.op then loudOp C.T st.env st.H m.op else (quietOp C.T st.env st.H m.op).map fun a => (a, st.H)) := by
            intro N
            unfold anyOp
            simp only [hc]
            cases hl : isLoud m.op with
            | true =>
              rw [quiet_none hl]
              cases loudOp C.T st.env st.H m.op <;> rfl
            | false => rw [loud_none hl]; rfl
          cases hl : isLoud m.op with
          | true =>
            simp only [WantK, AnyK, hc, hl]
            simp only [hl, cond_true] at ha
            constructor
            · rintro ⟨N, st', h, hr⟩
              simp only [opsAt, runOps, hw, ha] at h
              cases hlo : loudOp C.T st.env st.H m.op with
              | none => simp [hlo] at h
              | some r =>
                obtain ⟨x, H'⟩ := r
                simp only [hlo] at h
                exact ⟨x, H', rfl, N, st', h, hr⟩
            · rintro ⟨x, H', hlo, N, st', h, hr⟩
              exact ⟨N, st', by simp only [opsAt, runOps, hw, ha, hlo]; exact h, hr⟩
          | false =>
            simp only [WantK, AnyK, hc, hl]
            simp only [hl, cond_false] at ha
            constructor
            · rintro ⟨N, st', h, hr⟩
              simp only [opsAt, runOps, hw, ha] at h
              cases hlo : quietOp C.T st.env st.H m.op with
              | none => simp [hlo] at h
              | some x =>
                simp only [hlo, Option.map_some] at h
                exact ⟨x, rfl, N, st', h, hr⟩
            · rintro ⟨x, hlo, N, st', h, hr⟩
              exact ⟨N, st', by simp only [opsAt, runOps, hw, ha, hlo, Option.map_some]; exact h, hr⟩
        | some fa =>
          obtain ⟨f, as⟩ := fa
          simp only [WantK, AnyK, hc]
          constructor
          · rintro ⟨N, st', h, hr⟩
            simp only [opsAt, runOps, hw, anyOp, hc] at h
            cases ho : callQ.callO C N f as st.H with
            | none => simp [ho] at h
            | some r =>
              obtain ⟨x, H'⟩ := r
              simp only [ho] at h
              exact ⟨x, H', ⟨N, ho⟩, N, st', h, hr⟩
          · rintro ⟨x, H', ⟨N, ho⟩, N', st', h, hr⟩
            refine ⟨max N N', st', ?_, hr⟩
            have h1 := callO_le C (Nat.le_max_left N N') _ _ _ _ ho
            have h2 := opsAt_le C (Nat.le_max_right N N') h
            simp only [opsAt] at h2
            simp only [opsAt, runOps, hw, anyOp, hc, h1, h2]
      | succ n =>
        cases hc : calls st.env m.op with
        | none =>
          have ha : ∀ N, freeOp C.T (callQ C N) st m.op = (bif isLit m.op then litQ C.T st.env m.op else quietOp C.T st.env st.H m.op) := by
            intro N
            unfold freeOp
            simp only [hc]
            cases m.op <;> rfl
          cases hl : isLit m.op with
          | true =>
            simp only [WantK, FreeK, hc, hl]
            simp only [hl, cond_true] at ha
            constructor
            · rintro ⟨N, st', h, hr⟩
              simp only [opsAt, runOps, hw, ha] at h
              cases hlo : litQ C.T st.env m.op with
              | none => simp [hlo] at h
              | some x =>
                simp only [hlo] at h
                exact ⟨x, rfl, N, st', h, hr⟩
            · rintro ⟨x, hlo, N, st', h, hr⟩
              exact ⟨N, st', by simp only [opsAt, runOps, hw, ha, hlo]; exact h, hr⟩
          | false =>
            simp only [WantK, FreeK, hc, hl]
            simp only [hl, cond_false] at ha
            constructor
            · rintro ⟨N, st', h, hr⟩
              simp only [opsAt, runOps, hw, ha] at h
              cases hlo : quietOp C.T st.env st.H m.op with
              | none => simp [hlo] at h
              | some x =>
                simp only [hlo] at h
                exact ⟨x, rfl, N, st', h, hr⟩
            · rintro ⟨x, hlo, N, st', h, hr⟩
              exact ⟨N, st', by simp only [opsAt, runOps, hw, ha, hlo]; exact h, hr⟩
        | some fa =>
          obtain ⟨f, as⟩ := fa
          simp only [WantK, FreeK, hc]
          constructor
          · rintro ⟨N, st', h, hr⟩
            simp only [opsAt, runOps, hw, freeOp, hc] at h
            cases hl : lendL st.H as with
            | none => simp [hl] at h
            | some as' =>
              simp only [hl] at h
              cases hq : callQ C N f as' with
              | none => simp [hq] at h
              | some r =>
                simp only [hq] at h
                by_cases hb : (as.all shut || flat r) = true
                · rw [if_pos hb] at h
                  exact ⟨as', rfl, r, ⟨N, hq⟩, hb, N, st', h, hr⟩
                · rw [if_neg hb] at h
                  simp at h
          · rintro ⟨as', hl, r, ⟨N, hq⟩, hb, N', st', h, hr⟩
            refine ⟨max N N', st', ?_, hr⟩
            have h1 := callQ_le C (Nat.le_max_left N N') _ _ _ hq
            have h2 := opsAt_le C (Nat.le_max_right N N') h
            simp only [opsAt] at h2
            simp only [opsAt, runOps, hw, freeOp, hc, hl, h1, hb, if_true, h2]

/-- A call of a function whose arguments are held. -/
theorem passK_shut {f : FuncId} {as : List A} (hp : isPass C f = false) : PassK C f as dst ms st k Q ↔ LentK C f (lendL st.H as) (as.all shut) dst 0 ms st k Q := by
  constructor
  · rintro ⟨x, H', ⟨N, h⟩, hr⟩
    cases N with
    | zero => simp [callQ.callO] at h
    | succ N =>
      simp only [callQ.callO, hp, cond_false] at h
      cases hl : lendL st.H as with
      | none => simp [hl] at h
      | some as' =>
        simp only [hl] at h
        cases hq : callQ C N f as' with
        | none => simp [hq] at h
        | some r =>
          simp only [hq] at h
          split at h
          · rename_i hsf
            simp only [Option.some.injEq, Prod.mk.injEq] at h
            obtain ⟨rfl, rfl⟩ := h
            exact ⟨as', rfl, r, ⟨N, hq⟩, hsf, hr⟩
          · cases h
  · rintro ⟨as', hl, r, ⟨N, h⟩, hsf, hr⟩
    exact ⟨r, st.H, ⟨N + 1, by simp only [callQ.callO, hp, cond_false, hl, h, hsf, if_true]⟩, hr⟩

/-- What is asked at the end of a body that gives its caller a value, held. -/
def FinQ (T : Tb) (res : List ResultVar) (r : A) (ex : Ex) (st : St) : Prop :=
  match ex with
  | .out _ => False
  | _ => (result T st res).bind (freeze st.H 20) = some r
/-- A function's answer, out of its body's run. -/
theorem evQ_ext {f : FuncId} {as : List A} {r : A} (h : C.X f as = some r) : EvQ C f as r := ⟨1, by simp only [callQ, h]⟩
theorem evQ_of {f : FuncId} {m : MFn} {as : List A} {r : A} (hB : C.B f = some m) (hX : C.X f as = none) (hl : as.length ≤ m.nt) (h : RunK C [.code m.body] ⟨argE 0 as, []⟩ (FinQ C.T m.res r)) : EvQ C f as r := by
  obtain ⟨N, ex, st', h1, hq⟩ := runK_code.1 h
  have hfin : ∀ (ex : Ex), ex = .go ∨ ex = .back → runAt C N m.body ⟨argE 0 as, []⟩ = some (ex, st') → (result C.T st' m.res).bind (freeze st'.H 20) = some r → EvQ C f as r := by
    intro ex hex h1 h2
    cases hr : result C.T st' m.res with
    | none => simp [hr] at h2
    | some a =>
      simp only [hr, Option.bind_some] at h2
      refine ⟨N + 1, ?_⟩
      simp only [runAt] at h1
      rcases hex with rfl | rfl <;> simp only [callQ, hX, hB, runBody, if_pos hl, h1, hr, h2]
  cases ex with
  | go => exact hfin .go (.inl rfl) h1 (by simpa [runK_nil, FinQ] using hq)
  | back => exact hfin .back (.inr rfl) h1 (by simpa [unwK_nil, FinQ] using hq)
  | out id => exact (unwK_nil.1 hq).elim

/-- The caller goes on when a body that works on its live blocks has ended. -/
def RetK (C : Ctx) (res : List ResultVar) (dst : Option Nat) (ms : List MOp) (e : Env) (k : List It) (Q : Ex → St → Prop) (ex : Ex) (st : St) : Prop :=
  match ex with
  | .out _ => False
  | _ => HeapK C ((result C.T st res).map fun a => (a, st.H)) dst ms e k Q
theorem retK_go {res : List ResultVar} : RetK C res dst ms e k Q .go st ↔ HeapK C ((result C.T st res).map fun a => (a, st.H)) dst ms e k Q := Iff.rfl
theorem retK_back {res : List ResultVar} : RetK C res dst ms e k Q .back st ↔ HeapK C ((result C.T st res).map fun a => (a, st.H)) dst ms e k Q := Iff.rfl
theorem passK_pass {f : FuncId} {as : List A} {m : MFn} (hB : C.B f = some m) (hp : isPass C f = true) (hl : as.length ≤ m.nt) :
    PassK C f as dst ms st k Q ↔ RunK C [.code m.body] ⟨argE 0 as, st.H⟩ (RetK C m.res dst ms st.env k Q) := by
  constructor
  · rintro ⟨x, H', ⟨N, h⟩, hr⟩
    cases N with
    | zero => simp [callQ.callO] at h
    | succ N =>
      simp only [callQ.callO, hp, cond_true, hB, runBody, if_pos hl] at h
      have fin : ∀ (ex : Ex) (s1 : St), ex = .go ∨ ex = .back → runM C.T (callQ C N) (callQ.callO C N) N m.body ⟨argE 0 as, st.H⟩ = some (ex, s1) → (match result C.T s1 m.res with | some a => some (a, s1.H) | none => none) = some (x, H') → RunK C [.code m.body] ⟨argE 0 as, st.H⟩ (RetK C m.res dst ms st.env k Q) := by
        intro ex s1 hex h1 h2
        cases hr2 : result C.T s1 m.res with
        | none => simp [hr2] at h2
        | some a =>
          simp only [hr2, Option.some.injEq, Prod.mk.injEq] at h2
          obtain ⟨rfl, rfl⟩ := h2
          refine runK_code.2 ⟨N, ex, s1, h1, ?_⟩
          rcases hex with rfl | rfl
          · exact runK_nil.2 (retK_go.2 ⟨a, s1.H, by simp [hr2], hr⟩)
          · exact unwK_nil.2 (retK_back.2 ⟨a, s1.H, by simp [hr2], hr⟩)
      split at h
      · rename_i s1 h1
        exact fin _ s1 (.inl rfl) h1 h
      · rename_i s1 h1
        exact fin _ s1 (.inr rfl) h1 h
      · cases h
  · intro h
    obtain ⟨N, ex, s1, h1, hq⟩ := runK_code.1 h
    simp only [runAt] at h1
    have fin : ∀ (ex : Ex), ex = .go ∨ ex = .back → runM C.T (callQ C N) (callQ.callO C N) N m.body ⟨argE 0 as, st.H⟩ = some (ex, s1) → HeapK C ((result C.T s1 m.res).map fun a => (a, s1.H)) dst ms st.env k Q → PassK C f as dst ms st k Q := by
      rintro ex hex h1 ⟨x, H', h2, hr⟩
      cases hr2 : result C.T s1 m.res with
      | none => simp [hr2] at h2
      | some a =>
        simp only [hr2, Option.map_some, Option.some.injEq, Prod.mk.injEq] at h2
        obtain ⟨rfl, rfl⟩ := h2
        refine ⟨a, s1.H, ⟨N + 1, ?_⟩, hr⟩
        rcases hex with rfl | rfl <;> simp only [callQ.callO, hp, cond_true, hB, runBody, if_pos hl, h1, hr2]
    cases ex with
    | go => exact fin .go (.inl rfl) h1 (retK_go.1 (runK_nil.1 hq))
    | back => exact fin .back (.inr rfl) h1 (retK_back.1 (unwK_nil.1 hq))
    | out id => exact (unwK_nil.1 hq).elim
end

/-- THE LAW: what the evaluator says a function gives, the program's call gives. -/
theorem EvQ.calls {P : Program} {C : Ctx} (hC : CtxOk P C) {f : FuncId} {as : List A} {r : A} (h : EvQ C f as r) (w : World) (ys : List Value) (hg : Gl C.T.gl (fun _ => False) w) (hr : RL [] (fun _ => False) w as ys) :
    Go.Calls P f ys.toArray w fun e w' => ∃ v, e = .returned v ∧ Grow w w' ∧ R [] (fun _ => False) w' r v := by
  obtain ⟨N, h⟩ := h
  exact ((call_sound hC N).1 f as r h).2 _ w ys (fun g hg => hg.elim) hg hr
end Go.Proofs.Ytkpolehpdgnliaa.Ev
