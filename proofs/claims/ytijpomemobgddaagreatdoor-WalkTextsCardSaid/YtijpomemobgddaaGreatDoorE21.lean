/- Ranges over functions, rewritten: the record is laid, the function runs in the same live blocks, its calls of yield are rounds. -/
import Derived.Test.YtijpomemobgddaaGreatDoorE22
set_option linter.unusedSimpArgs false
set_option linter.unusedVariables false
namespace Go.Proofs.YtijpomemobgddaaGreatDoor.Ev
open Go Go.RowKit

section
variable {C : Ctx} {k : List It} {st : St} {e : Env} {H : Heap} {Q : Ex → St → Prop} {dst : Option Nat} {ms : List MOp} {n : Nat}
/-- On with a statement that has ended so. -/
def ExK (C : Ctx) (ex : Ex) (k : List It) (st : St) (Q : Ex → St → Prop) : Prop := match ex with
  | .go => RunK C k st Q
  | ex => UnwK C ex k st Q
theorem exK_go : ExK C .go k st Q ↔ RunK C k st Q := Iff.rfl
theorem exK_out {id : Nat} : ExK C (.out id) k st Q ↔ UnwK C (.out id) k st Q := Iff.rfl
theorem exK_back : ExK C .back k st Q ↔ UnwK C .back k st Q := Iff.rfl
/-- Behind the function that was ranged over. -/
def PendK (C : Ctx) (b : Nat) (p : Option Ex) (H : Heap) (k : List It) (e : Env) (Q : Ex → St → Prop) : Prop := ∃ ex, p = some ex ∧ ExK C ex k ⟨e, H.set b none⟩ Q
theorem pendK_some {b : Nat} {ex : Ex} : PendK C b (some ex) H k e Q ↔ ExK C ex k ⟨e, H.set b none⟩ Q := ⟨fun ⟨_, h, hr⟩ => by cases h; exact hr, fun h => ⟨ex, rfl, h⟩⟩
/-- A call in the caller's live blocks, and what is asked behind it. -/
def CallK (C : Ctx) (f : FuncId) (as : List A) (H : Heap) (Q : A → Heap → Prop) : Prop := ∃ x H', EvO C f as H x H' ∧ Q x H'
def RfK (C : Ctx) (g : Option (Tgt × List A × List A)) (nt : Nat) (ps sl : List Nat) (a b : M) (st : St) (k : List It) (Q : Ex → St → Prop) : Prop := match g with
  | some (.fn f, fs, caps) => CallK C f (fs ++ [.yl st.H.length] ++ caps) (st.H ++ [some (newRecA nt ps a b (keepE st.env sl))]) fun _ H' => PendK C st.H.length (pending H' st.H.length) H' k st.env Q
  | _ => False
theorem rfK_fn {f : FuncId} {fs caps : List A} {nt : Nat} {ps sl : List Nat} {a b : M} : RfK C (some (.fn f, fs, caps)) nt ps sl a b st k Q ↔ CallK C f (fs ++ [.yl st.H.length] ++ caps) (st.H ++ [some (newRecA nt ps a b (keepE st.env sl))]) fun _ H' => PendK C st.H.length (pending H' st.H.length) H' k st.env Q := Iff.rfl
theorem runK_rf {g : Operand} {nt : Nat} {ps sl : List Nat} {a b : M} : RunK C (.code (.rf g nt ps sl a b) :: k) st Q ↔ RfK C ((opnd st.env g).bind callee) nt ps sl a b st k Q := by
  have back : ∀ {ex : Ex} {s : St}, (match ex with | .go => RunK C k s Q | ex => UnwK C ex k s Q) ↔ ExK C ex k s Q := by
    intro ex s
    cases ex <;> exact Iff.rfl
  constructor
  · intro h
    obtain ⟨N, ex, st', h, hq⟩ := runK_code.1 h
    replace h := runAt_pred h
    simp only [runM] at h
    split at h
    · rename_i f fs caps hc
      split at h
      · rename_i x H' ho
        split at h
        · rename_i ex1 hp
          simp only [Option.some.injEq, Prod.mk.injEq] at h
          obtain ⟨rfl, rfl⟩ := h
          rw [hc]
          exact ⟨x, H', ⟨N, ho⟩, ex1, hp, back.1 hq⟩
        · cases h
      · cases h
    · cases h
  · intro h
    unfold RfK at h
    split at h
    · rename_i f fs caps hc
      obtain ⟨x, H', ⟨N, ho⟩, ex, hp, hr⟩ := h
      refine runK_code.2 ⟨N + 1, ex, ⟨st.env, H'.set st.H.length none⟩, runAt_succ ?_, back.2 hr⟩
      simp only [runM, hc, ho, hp]
    · exact h.elim
/-- At the end of a body that works in its caller's live blocks. -/
def EndK (C : Ctx) (res : List ResultVar) (Q : A → Heap → Prop) (ex : Ex) (st : St) : Prop := match ex with
  | .out _ => False
  | _ => ∃ a, result C.T st res = some a ∧ Q a st.H
theorem endK_go {res : List ResultVar} {Q : A → Heap → Prop} : EndK C res Q .go st ↔ ∃ a, result C.T st res = some a ∧ Q a st.H := Iff.rfl
theorem endK_back {res : List ResultVar} {Q : A → Heap → Prop} : EndK C res Q .back st ↔ ∃ a, result C.T st res = some a ∧ Q a st.H := Iff.rfl
theorem callK_in {f : FuncId} {as : List A} {m : MFn} {Q : A → Heap → Prop} (hB : C.B f = some m) (hp : isPass C f = true) (hO : C.XO f = none := by rfl) :
    CallK C f as H Q ↔ (as.length ≤ m.nt ∧ RunK C [.code m.body] ⟨argE 0 as, H⟩ (EndK C m.res Q)) := by
  constructor
  · rintro ⟨x, H', ⟨N, h⟩, hr⟩
    cases N with
    | zero => simp [callQ.callO] at h
    | succ N =>
      simp only [callQ.callO, hO, hp, cond_true, hB, runBody] at h
      split at h
      · rename_i hl
        refine ⟨hl, ?_⟩
        have fin : ∀ (ex : Ex) (s1 : St), ex = .go ∨ ex = .back → runM C.T (callQ C N) (callQ.callO C N) N m.body ⟨argE 0 as, H⟩ = some (ex, s1) → (match result C.T s1 m.res with | some a => some (a, s1.H) | none => none) = some (x, H') → RunK C [.code m.body] ⟨argE 0 as, H⟩ (EndK C m.res Q) := by
          intro ex s1 hex h1 h2
          cases hr2 : result C.T s1 m.res with
          | none => simp [hr2] at h2
          | some a =>
            simp only [hr2, Option.some.injEq, Prod.mk.injEq] at h2
            obtain ⟨rfl, rfl⟩ := h2
            refine runK_code.2 ⟨N, ex, s1, h1, ?_⟩
            rcases hex with rfl | rfl
            · exact runK_nil.2 ⟨a, hr2, hr⟩
            · exact unwK_nil.2 ⟨a, hr2, hr⟩
        split at h
        · rename_i s1 h1
          exact fin _ s1 (.inl rfl) h1 h
        · rename_i s1 h1
          exact fin _ s1 (.inr rfl) h1 h
        · cases h
      · cases h
  · rintro ⟨hl, h⟩
    obtain ⟨N, ex, s1, h1, hq⟩ := runK_code.1 h
    simp only [runAt] at h1
    have fin : ∀ (ex : Ex), ex = .go ∨ ex = .back → runM C.T (callQ C N) (callQ.callO C N) N m.body ⟨argE 0 as, H⟩ = some (ex, s1) → (∃ a, result C.T s1 m.res = some a ∧ Q a s1.H) → CallK C f as H Q := by
      rintro ex hex h1 ⟨a, h2, hr⟩
      refine ⟨a, s1.H, ⟨N + 1, ?_⟩, hr⟩
      rcases hex with rfl | rfl <;> simp only [callQ.callO, hO, hp, cond_true, hB, runBody, if_pos hl, h1, h2]
    cases ex with
    | go => exact fin .go (.inl rfl) h1 (runK_nil.1 hq)
    | back => exact fin .back (.inr rfl) h1 (unwK_nil.1 hq)
    | out id => exact (unwK_nil.1 hq).elim
/-- Behind a round's body. -/
def RndK (C : Ctx) (b : Nat) (dst : Option Nat) (ms : List MOp) (e : Env) (k : List It) (Q : Ex → St → Prop) (ex : Ex) (s2 : St) : Prop :=
  ∃ r2, recOf s2.H b = some r2 ∧ OpsK C 0 ms ⟨put e dst (.v (.bool (match ex with | .go => true | _ => false))), s2.H.set b (some (match ex with | .go => r2.blk 0 0 | ex => r2.blk 2 (nOfEx ex)))⟩ k Q
/-- Behind a round's assignments. -/
def AsgK (C : Ctx) (b : Nat) (body : M) (dst : Option Nat) (ms : List MOp) (e : Env) (k : List It) (Q : Ex → St → Prop) (ex : Ex) (s1 : St) : Prop :=
  ex = .go ∧ ∃ r1, recOf s1.H b = some r1 ∧ r1.s = 0 ∧ RunK C [.code body] ⟨s1.env, s1.H.set b (some (r1.blk 1 r1.p))⟩ (RndK C b dst ms e k Q)
def RoundK (C : Ctx) (b : Nat) (r : Option RecA) (as : List A) (dst : Option Nat) (ms : List MOp) (st : St) (k : List It) (Q : Ex → St → Prop) : Prop := match r with
  | some r => (r.s = 0 ∧ as.length = r.ps.length) ∧ RunK C [.code r.a] ⟨zipE r.ps as (zipE r.sl r.vs []), st.H⟩ (AsgK C b r.b dst ms st.env k Q)
  | none => False
theorem roundK_some {b : Nat} {r : RecA} {as : List A} : RoundK C b (some r) as dst ms st k Q ↔ ((r.s = 0 ∧ as.length = r.ps.length) ∧ RunK C [.code r.a] ⟨zipE r.ps as (zipE r.sl r.vs []), st.H⟩ (AsgK C b r.b dst ms st.env k Q)) := Iff.rfl
theorem asgK_go {b : Nat} {body : M} {s1 : St} {r1 : RecA} (h : recOf s1.H b = some r1) : AsgK C b body dst ms e k Q .go s1 ↔ (r1.s = 0 ∧ RunK C [.code body] ⟨s1.env, s1.H.set b (some (r1.blk 1 r1.p))⟩ (RndK C b dst ms e k Q)) := by
  unfold AsgK
  constructor
  · rintro ⟨-, r, h1, h2, h3⟩
    rw [h] at h1
    cases h1
    exact ⟨h2, h3⟩
  · rintro ⟨h2, h3⟩
    exact ⟨rfl, r1, h, h2, h3⟩
theorem rndK_go {b : Nat} {s2 : St} {r2 : RecA} (h : recOf s2.H b = some r2) : RndK C b dst ms e k Q .go s2 ↔ OpsK C 0 ms ⟨put e dst (.v (.bool true)), s2.H.set b (some (r2.blk 0 0))⟩ k Q := by
  unfold RndK
  constructor
  · rintro ⟨r, h1, h2⟩
    rw [h] at h1
    cases h1
    exact h2
  · intro h2
    exact ⟨r2, h, h2⟩
theorem rndK_out {b id : Nat} {s2 : St} {r2 : RecA} (h : recOf s2.H b = some r2) : RndK C b dst ms e k Q (.out id) s2 ↔ OpsK C 0 ms ⟨put e dst (.v (.bool false)), s2.H.set b (some (r2.blk 2 (nOfEx (.out id))))⟩ k Q := by
  unfold RndK
  constructor
  · rintro ⟨r, h1, h2⟩
    rw [h] at h1
    cases h1
    exact h2
  · intro h2
    exact ⟨r2, h, h2⟩
theorem rndK_back {b : Nat} {s2 : St} {r2 : RecA} (h : recOf s2.H b = some r2) : RndK C b dst ms e k Q .back s2 ↔ OpsK C 0 ms ⟨put e dst (.v (.bool false)), s2.H.set b (some (r2.blk 2 1))⟩ k Q := by
  unfold RndK
  constructor
  · rintro ⟨r, h1, h2⟩
    rw [h] at h1
    cases h1
    exact h2
  · intro h2
    exact ⟨r2, h, h2⟩
theorem ylK_in {b : Nat} {as : List A} : YlK C b as dst ms st k Q ↔ RoundK C b (recOf st.H b) as dst ms st k Q := by
  constructor
  · rintro ⟨x, H', ⟨N, h⟩, hr⟩
    cases N with
    | zero => simp [callQ.callO] at h
    | succ N =>
      simp only [callQ.callO, runRound] at h
      cases h0 : recOf st.H b with
      | none => simp [h0] at h
      | some r =>
        simp only [h0] at h
        split at h
        · rename_i hc
          cases h1 : runM C.T (callQ C N) (callQ.callO C N) N r.a ⟨zipE r.ps as (zipE r.sl r.vs []), st.H⟩ with
          | none => simp [h1] at h
          | some es =>
            obtain ⟨e1, s1⟩ := es
            cases e1 with
            | out id => simp [h1] at h
            | back => simp [h1] at h
            | go =>
              simp only [h1] at h
              cases h2 : recOf s1.H b with
              | none => simp [h2] at h
              | some r1 =>
                simp only [h2] at h
                split at h
                · rename_i hs
                  cases h3 : runM C.T (callQ C N) (callQ.callO C N) N r.b ⟨s1.env, s1.H.set b (some (r1.blk 1 r1.p))⟩ with
                  | none => simp [h3] at h
                  | some es =>
                    obtain ⟨e2, s2⟩ := es
                    simp only [h3] at h
                    cases h4 : recOf s2.H b with
                    | none => simp [h4] at h
                    | some r2 =>
                      simp only [h4] at h
                      refine ⟨hc, runK_code.2 ⟨N, .go, s1, h1, runK_nil.2 ?_⟩⟩
                      rw [asgK_go h2]
                      refine ⟨hs, runK_code.2 ⟨N, e2, s2, h3, ?_⟩⟩
                      cases e2 with
                      | go =>
                        simp only [Option.some.injEq, Prod.mk.injEq] at h
                        obtain ⟨rfl, rfl⟩ := h
                        exact runK_nil.2 ((rndK_go h4).2 hr)
                      | out id =>
                        simp only [Option.some.injEq, Prod.mk.injEq] at h
                        obtain ⟨rfl, rfl⟩ := h
                        exact unwK_nil.2 ((rndK_out h4).2 hr)
                      | back =>
                        simp only [Option.some.injEq, Prod.mk.injEq] at h
                        obtain ⟨rfl, rfl⟩ := h
                        exact unwK_nil.2 ((rndK_back h4).2 hr)
                · cases h
        · cases h
  · intro h
    cases h0 : recOf st.H b with
    | none => rw [h0] at h; exact h.elim
    | some r =>
      rw [h0] at h
      obtain ⟨hc, h⟩ := h
      obtain ⟨N1, e1, s1, h1, hq⟩ := runK_code.1 h
      have hgo : AsgK C b r.b dst ms st.env k Q e1 s1 := by
        cases e1 with
        | go => exact runK_nil.1 hq
        | out id => exact unwK_nil.1 hq
        | back => exact unwK_nil.1 hq
      obtain ⟨rfl, r1, h2, hs, h⟩ := hgo
      obtain ⟨N2, e2, s2, h3, hq⟩ := runK_code.1 h
      have hend : RndK C b dst ms st.env k Q e2 s2 := by
        cases e2 with
        | go => exact runK_nil.1 hq
        | out id => exact unwK_nil.1 hq
        | back => exact unwK_nil.1 hq
      obtain ⟨r2, h4, hr⟩ := hend
      have k1 := runAt_le C (Nat.le_max_left N1 N2) h1
      have k2 := runAt_le C (Nat.le_max_right N1 N2) h3
      simp only [runAt] at k1 k2
      refine ⟨_, _, ⟨max N1 N2 + 1, ?_⟩, hr⟩
      simp only [callQ.callO, runRound, h0, if_pos hc, k1, h2, if_pos hs, k2, h4]
      cases e2 <;> rfl
/-- The same, for rewriting: what the record is, is said by an equation of its own. -/
def AsgR (C : Ctx) (b : Nat) (body : M) (dst : Option Nat) (ms : List MOp) (e : Env) (k : List It) (Q : Ex → St → Prop) (r : Option RecA) (s1 : St) : Prop := match r with
  | some r1 => r1.s = 0 ∧ RunK C [.code body] ⟨s1.env, s1.H.set b (some (r1.blk 1 r1.p))⟩ (RndK C b dst ms e k Q)
  | none => False
theorem asgR_go {b : Nat} {body : M} {s1 : St} : AsgK C b body dst ms e k Q .go s1 ↔ AsgR C b body dst ms e k Q (recOf s1.H b) s1 := by
  unfold AsgK AsgR
  constructor
  · rintro ⟨-, r, h1, h2, h3⟩
    rw [h1]
    exact ⟨h2, h3⟩
  · intro h
    split at h
    · rename_i r1 hr
      exact ⟨rfl, r1, hr, h.1, h.2⟩
    · exact h.elim
theorem asgR_some {b : Nat} {body : M} {s1 : St} {r1 : RecA} : AsgR C b body dst ms e k Q (some r1) s1 ↔ (r1.s = 0 ∧ RunK C [.code body] ⟨s1.env, s1.H.set b (some (r1.blk 1 r1.p))⟩ (RndK C b dst ms e k Q)) := Iff.rfl
def RndR (C : Ctx) (b : Nat) (dst : Option Nat) (ms : List MOp) (e : Env) (k : List It) (Q : Ex → St → Prop) (y : Bool) (s p : Int) (r : Option RecA) (H : Heap) : Prop := match r with
  | some r2 => OpsK C 0 ms ⟨put e dst (.v (.bool y)), H.set b (some (r2.blk s p))⟩ k Q
  | none => False
theorem rndR_some {b : Nat} {y : Bool} {s p : Int} {r2 : RecA} : RndR C b dst ms e k Q y s p (some r2) H ↔ OpsK C 0 ms ⟨put e dst (.v (.bool y)), H.set b (some (r2.blk s p))⟩ k Q := Iff.rfl
theorem rndR_go {b : Nat} {s2 : St} : RndK C b dst ms e k Q .go s2 ↔ RndR C b dst ms e k Q true 0 0 (recOf s2.H b) s2.H := by
  unfold RndR
  constructor
  · rintro ⟨r, h1, h2⟩
    rw [h1]
    exact h2
  · intro h
    split at h
    · rename_i r2 hr
      exact ⟨r2, hr, h⟩
    · exact h.elim
theorem rndR_out {b id : Nat} {s2 : St} : RndK C b dst ms e k Q (.out id) s2 ↔ RndR C b dst ms e k Q false 2 (id + 2) (recOf s2.H b) s2.H := by
  unfold RndR
  constructor
  · rintro ⟨r, h1, h2⟩
    rw [h1]
    exact h2
  · intro h
    split at h
    · rename_i r2 hr
      exact ⟨r2, hr, h⟩
    · exact h.elim
theorem rndR_back {b : Nat} {s2 : St} : RndK C b dst ms e k Q .back s2 ↔ RndR C b dst ms e k Q false 2 1 (recOf s2.H b) s2.H := by
  unfold RndR
  constructor
  · rintro ⟨r, h1, h2⟩
    rw [h1]
    exact h2
  · intro h
    split at h
    · rename_i r2 hr
      exact ⟨r2, hr, h⟩
    · exact h.elim
end
end Go.Proofs.YtijpomemobgddaaGreatDoor.Ev
