/- What the evaluator answers without touching live blocks stands when more of them are there. -/
import Derived.Test.YtijpomemobgddaaGreatDoorE23
set_option linter.unusedSimpArgs false
set_option linter.unusedVariables false
namespace Go.Proofs.YtijpomemobgddaaGreatDoor.Ev
open Go Go.RowKit
variable {T : Tb}

/-- More live blocks, the old ones as they were. -/
def HLe (H H' : Heap) : Prop := ∀ (b : Nat) (k : Blk), H[b]? = some (some k) → H'[b]? = some (some k)
theorem HLe.refl (H : Heap) : HLe H H := fun _ _ h => h
theorem HLe.trans {H H' H'' : Heap} (h : HLe H H') (h' : HLe H' H'') : HLe H H'' := fun b k hb => h' b k (h b k hb)
theorem HLe.app (H l : Heap) : HLe H (H ++ l) := fun b k h => by
  rw [List.getElem?_append_left (List.getElem?_eq_some_iff.1 h).1]
  exact h
theorem HLe.set {H0 H : Heap} (h : HLe H0 H) {b : Nat} (hb : H0.length ≤ b) (x : Option Blk) : HLe H0 (H.set b x) := fun i k hi => by
  have := (List.getElem?_eq_some_iff.1 hi).1
  rw [List.getElem?_set_ne (by omega)]
  exact h i k hi

section
variable {H H' : Heap} (hle : HLe H H')
include hle
theorem freeze_mono : ∀ n : Nat, (∀ a r : A, freeze H n a = some r → freeze H' n a = some r) ∧ (∀ cs rs : List A, mapO (freeze H n) cs = some rs → mapO (freeze H' n) cs = some rs) := by
  intro n
  induction n with
  | zero =>
    refine ⟨fun a r h => by simp [freeze] at h, fun cs => ?_⟩
    cases cs with
    | nil => intro rs h; simpa [mapO] using h
    | cons c cs => intro rs h; simp [mapO, freeze] at h
  | succ n ih =>
    have mapL : ∀ (cs : List A) (f : List A → A) (r : A), (mapO (freeze H n) cs).map f = some r → (mapO (freeze H' n) cs).map f = some r := fun cs f r h => by
      cases hf : mapO (freeze H n) cs with
      | none => simp [hf] at h
      | some rs =>
        rw [hf] at h
        rw [ih.2 cs rs hf]
        exact h
    have hA : ∀ a r : A, freeze H (n + 1) a = some r → freeze H' (n + 1) a = some r := by
      intro a r h
      cases a with
      | agg cs =>
        simp only [freeze] at h ⊢
        exact mapL cs _ r h
      | tup cs =>
        simp only [freeze] at h ⊢
        exact mapL cs _ r h
      | clo f fs caps =>
        simp only [freeze] at h ⊢
        cases h1 : mapO (freeze H n) fs with
        | none => simp [h1] at h
        | some xs =>
          cases h2 : mapO (freeze H n) caps with
          | none => simp [h1, h2] at h
          | some ys =>
            rw [h1, h2] at h
            rw [ih.2 _ _ h1, ih.2 _ _ h2]
            exact h
      | mp b =>
        simp only [freeze] at h ⊢
        split at h
        · rename_i k hb
          rw [hle b k hb]
          exact mapL _ _ r h
        · cases h
      | ptr b off =>
        simp only [freeze] at h ⊢
        split at h
        · rename_i k hb
          rw [hle b k hb]
          exact mapL _ _ r h
        · cases h
      | ref b off len sz =>
        simp only [freeze] at h ⊢
        split at h
        · rename_i k hb
          rw [hle b k hb]
          simp only
          split at h
          · rename_i hc
            rw [if_pos hc]
            exact mapL _ _ r h
          · cases h
        · cases h
      | _ =>
        simp only [freeze] at h ⊢
        exact h
    refine ⟨hA, fun cs => ?_⟩
    induction cs with
    | nil => intro rs h; simpa [mapO] using h
    | cons c cs ihc =>
      intro rs h
      unfold mapO at h ⊢
      cases h1 : freeze H (n + 1) c with
      | none => simp [h1] at h
      | some x =>
        cases h2 : mapO (freeze H (n + 1)) cs with
        | none => simp [h1, h2] at h
        | some xs =>
          rw [h1, h2] at h
          rw [hA c x h1, ihc xs h2]
          exact h
theorem lend_mono : ∀ (l r : List A), lendL H l = some r → lendL H' l = some r
  | [], r, h => h
  | a :: l, r, h => by
    unfold lendL at h ⊢
    cases h1 : freeze H 20 a with
    | none => simp [h1] at h
    | some x =>
      cases h2 : lendL H l with
      | none => simp [h1, h2] at h
      | some xs =>
        rw [h1, h2] at h
        rw [(freeze_mono hle 20).1 a x h1, lend_mono l xs h2]
        exact h
theorem readL_mono {G : Nat → Option (List Value)} {a : A} {cs : List A} (h : readL G H a = some cs) : readL G H' a = some cs := by
  cases a with
  | ptr b off =>
    simp only [readL] at h ⊢
    split at h
    · rename_i k hb
      rw [hle b k hb]
      exact h
    · cases h
  | v y =>
    unfold readL at h ⊢
    split at h
    · rename_i heq
      cases heq
      exact h
    · rename_i heq
      cases heq
    · rename_i heq
      cases heq
    · cases h
  | fp l => exact h
  | _ => cases h
theorem entriesA_mono {a : A} {cs : List A} (h : entriesA H a = some cs) : entriesA H' a = some cs := by
  cases a with
  | mp b =>
    simp only [entriesA] at h ⊢
    split at h
    · rename_i k hb
      rw [hle b k hb]
      exact h
    · cases h
  | v y =>
    unfold entriesA at h ⊢
    split at h
    · rename_i heq
      cases heq
    · rename_i heq
      cases heq
      exact h
    · rename_i heq
      cases heq
    · cases h
  | mf l => exact h
  | _ => cases h
theorem convB_mono {k k' : K} {b off len sz : Nat} {x : A} (h : convB T H k k' b off len sz = some x) : convB T H' k k' b off len sz = some x := by
  unfold convB at h ⊢
  split at h
  · rename_i el blk hb
    simp only [hle b blk hb]
    exact h
  · cases h
theorem quiet_mono {e : Env} {op : Op} {x : A} (h : quietOp T e H op = some x) : quietOp T e H' op = some x := by
  cases op with
  | convert s t p =>
    simp only [quietOp] at h ⊢
    split at h
    · exact h
    · exact h
    · cases hq : Nat.beq t 9 with
      | false =>
        rw [hq] at h
        cases h
      | true =>
        rw [hq, cond_true] at h
        rw [cond_true]
        exact convB_mono hle h
    · cases h
  | load t p =>
    simp only [quietOp] at h ⊢
    cases hp : opnd e p with
    | none => simp [hp] at h
    | some a =>
      simp only [hp, Option.bind_some] at h ⊢
      cases hr : readL T.gl.tab H a with
      | none => simp [hr] at h
      | some cs =>
        rw [hr] at h
        rw [readL_mono hle hr]
        exact h
  | lookup t m k ok =>
    simp only [quietOp] at h ⊢
    split at h
    · rename_i ty mv key hty hm hk
      split at h
      · rename_i kt et hkd
        split at h
        · rename_i tk te es h1 h2 h3
          rw [entriesA_mono hle h3, h1, h2]
          exact h
        · cases h
      · cases h
    · cases h
  | slice t p lo hi mx =>
    cases hp : opnd e p with
    | none =>
      exfalso
      simp only [quietOp, hp] at h
      split at h <;> simp_all
    | some a =>
      cases a with
      | ptr b off =>
        simp only [quietOp, hp] at h ⊢
        split at h
        · cases ‹some (A.ptr b off) = some _›
          split at h
          · cases h
          · split at h <;> cases h
          · split at h
            · rename_i h1 h2
              simp only [h1, h2] at h ⊢
              split at h
              · rename_i k hk
                rw [hle b k hk]
                exact h
              · cases h
            · cases h
          · cases h
        · cases h
      | v y =>
        simp only [quietOp, hp] at h ⊢
        split at h
        · cases ‹some (A.v y) = some _›
          split at h
          · exact h
          · exact h
          · split at h <;> cases h
          · cases h
        · cases h
      | _ =>
        simp only [quietOp, hp] at h ⊢
        split at h
        · cases ‹some _ = some _›
          split at h
          · first | exact h | cases h
          · first | exact h | (split at h <;> cases h)
          · split at h
            · rename_i h1 h2
              simp only [h1, h2] at h ⊢
              first | exact h | cases h
            · cases h
          · cases h
        · cases h
  | _ => exact h
theorem free_mono {q : OrcQ} {e : Env} {op : Op} {x : A} (h : freeOp T q ⟨e, H⟩ op = some x) : freeOp T q ⟨e, H'⟩ op = some x := by
  unfold freeOp at h ⊢
  simp only at h ⊢
  cases hc : calls e op with
  | some fa =>
    obtain ⟨f | b0, l⟩ := fa
    rotate_left
    · simp [hc] at h
    simp only [hc] at h ⊢
    cases hl : lendL H l with
    | none => simp [hl] at h
    | some r =>
      rw [hl] at h
      rw [lend_mono hle l r hl]
      exact h
  | none =>
    simp only [hc] at h ⊢
    cases op with
    | buildSlice t n ps => exact h
    | _ => exact quiet_mono hle h
theorem stepF_mono {q : OrcQ} {e : Env} {m : MOp} {x : A} (h : stepF T q ⟨e, H⟩ m = some x) : stepF T q ⟨e, H'⟩ m = some x := by
  unfold stepF at h ⊢
  simp only at h ⊢
  split at h
  · cases h
  · exact h
  · exact free_mono hle h
end
end Go.Proofs.YtijpomemobgddaaGreatDoor.Ev
namespace Go.Proofs.YtijpomemobgddaaGreatDoor.Ev
open Go Go.RowKit
variable {T : Tb}

theorem bytes_same {a b : ByteArray} (h : (a == b) = true) : a = b := by
  cases a with | mk a => cases b with | mk b =>
  have : (a == b) = true := h
  rw [eq_of_beq this]
theorem empty_arr {a : Array Value} (h : a.isEmpty = true) : a = #[] := by simpa using h
theorem eqV_eq {x y : Value} (h : eqV x y = true) : x = y := by
  unfold eqV at h
  split at h
  · simp only [Bool.and_eq_true, decide_eq_true_eq] at h
    rw [h.1, h.2]
  · simpa using h
  · rw [bytes_same h]
  · simp only [Bool.and_eq_true, nbeq] at h
    rw [h.1, h.2]
  · simp only [Bool.and_eq_true, decide_eq_true_eq, nbeq] at h
    rw [h.1, h.2.1, h.2.2]
  · rfl
  · simpa using h
  · rfl
  · rfl
  · rfl
  · simp only [Bool.and_eq_true, nbeq] at h
    obtain ⟨rfl, ⟨⟨h1, h2⟩, h3⟩, h4⟩ := h
    rw [empty_arr h1, empty_arr h2, empty_arr h3, empty_arr h4]
  · cases h
mutual
theorem eqA_eq : ∀ (a b : A), eqA a b = true → a = b
  | .v x, b, h => by
    cases b <;> simp only [eqA] at h <;> first | (cases h; done) | rw [eqV_eq h]
  | .agg l, b, h => by
    cases b <;> simp only [eqA] at h <;> first | (cases h; done) | rw [eqL_eq l _ h]
  | .tup l, b, h => by
    cases b <;> simp only [eqA] at h <;> first | (cases h; done) | rw [eqL_eq l _ h]
  | .ptr i o, b, h => by
    cases b <;> simp only [eqA, Bool.and_eq_true, nbeq] at h <;> first | (cases h; done) | rw [h.1, h.2]
  | .ref i o n z, b, h => by
    cases b <;> simp only [eqA, Bool.and_eq_true, nbeq] at h <;> first | (cases h; done) | rw [h.1.1.1, h.1.1.2, h.1.2, h.2]
  | .sl n l, b, h => by
    cases b <;> simp only [eqA, Bool.and_eq_true, nbeq] at h <;> first | (cases h; done) | rw [h.1, eqL_eq l _ h.2]
  | .fp l, b, h => by
    cases b <;> simp only [eqA] at h <;> first | (cases h; done) | rw [eqL_eq l _ h]
  | .mp i, b, h => by
    cases b <;> simp only [eqA, nbeq] at h <;> first | (cases h; done) | rw [h]
  | .mf l, b, h => by
    cases b <;> simp only [eqA] at h <;> first | (cases h; done) | rw [eqL_eq l _ h]
  | .clo f l r, b, h => by
    cases b <;> simp only [eqA, Bool.and_eq_true, nbeq] at h <;> first | (cases h; done) | rw [h.1.1, eqL_eq l _ h.1.2, eqL_eq r _ h.2]
theorem eqL_eq : ∀ (a b : List A), eqL a b = true → a = b
  | [], b, h => by
    cases b with
    | nil => rfl
    | cons _ _ => simp [eqL] at h
  | x :: l, b, h => by
    cases b with
    | nil => simp [eqL] at h
    | cons y r =>
      simp only [eqL, Bool.and_eq_true] at h
      rw [eqA_eq x y h.1, eqL_eq l r h.2]
end

/-- What has no way into a live block is held alike whatever is there. -/
theorem freeze_any (H H' : Heap) : ∀ n : Nat, (∀ a : A, shut a = true → freeze H n a = freeze H' n a) ∧ (∀ cs : List A, shut.shutL cs = true → mapO (freeze H n) cs = mapO (freeze H' n) cs) := by
  intro n
  induction n with
  | zero =>
    refine ⟨fun a _ => rfl, fun cs => ?_⟩
    cases cs <;> intro _ <;> rfl
  | succ n ih =>
    have hA : ∀ a : A, shut a = true → freeze H (n + 1) a = freeze H' (n + 1) a := by
      intro a h
      cases a with
      | agg cs =>
        simp only [freeze]
        rw [ih.2 cs (by simpa [shut] using h)]
      | tup cs =>
        simp only [freeze]
        rw [ih.2 cs (by simpa [shut] using h)]
      | clo f fs caps =>
        simp only [shut, Bool.and_eq_true] at h
        simp only [freeze]
        rw [ih.2 fs h.1, ih.2 caps h.2]
      | ptr b o => simp [shut] at h
      | ref b o l s => simp [shut] at h
      | mp b => simp [shut] at h
      | yl b => simp [shut] at h
      | lrec nt ps sl a b => simp [shut] at h
      | it b => simp [shut] at h
      | its s p => simp [shut] at h
      | _ => simp only [freeze]
    refine ⟨hA, fun cs => ?_⟩
    induction cs with
    | nil => intro _; rfl
    | cons c cs ihc =>
      intro h
      simp only [shut.shutL, Bool.and_eq_true] at h
      unfold mapO
      rw [hA c h.1, ihc h.2]
theorem lend_any (H H' : Heap) : ∀ l : List A, l.all shut = true → lendL H l = lendL H' l
  | [], _ => rfl
  | a :: l, h => by
    simp only [List.all_cons, Bool.and_eq_true] at h
    unfold lendL
    rw [(freeze_any H H' 20).1 a h.1, lend_any H H' l h.2]

theorem again_ok {q : OrcQ} {e e0 : Env} {H H0 : Heap} {m : MOp} {x : A} (h : stepF T q ⟨e0, H0⟩ m = some x) (ha : againOp T ⟨e, H⟩ m = true) (hop : Agree m.op.operands.toList e e0) (hg : wants e m.guard = wants e0 m.guard) (hd : ∀ d, m.dst = some d → look e d = some x) :
    stepF T q ⟨e0, H⟩ m = some x := by
  unfold stepF at h ⊢
  unfold againOp at ha
  simp only at h ha ⊢
  rw [hg] at ha
  cases hw : wants e0 m.guard with
  | none => simp [hw] at h
  | some b =>
    cases b with
    | false => simpa [hw] using h
    | true =>
      simp only [hw] at h ha ⊢
      unfold freeOp at h ⊢
      simp only at h ⊢
      rw [calls_congr hop] at ha
      cases hc : calls e0 m.op with
      | some fl =>
        obtain ⟨f | b0, l⟩ := fl
        rotate_left
        · simp [hc] at h
        simp only [hc] at h ha ⊢
        rw [lend_any H H0 l ha]
        exact h
      | none =>
        simp only [hc] at h ha ⊢
        rw [quiet_congr hop] at ha
        cases ho : m.op with
        | buildSlice t n ps =>
          rw [ho] at h
          exact h
        | _ =>
          simp only [ho] at h ha ⊢
          cases hdst : m.dst with
          | none => simp [hdst] at ha
          | some d =>
            simp only [hdst, hd d hdst] at ha
            split at ha
            · rename_i y x' hy hx
              obtain rfl := Option.some.inj hx
              rw [hy, eqA_eq _ _ ha]
            · cases ha
theorem againAll_get {st : St} : ∀ {l : List MOp} {m : MOp}, againAll T st l = true → m ∈ l → againOp T st m = true
  | [], _, _, h => by cases h
  | m' :: l, m, h, hm => by
    simp only [againAll, Bool.and_eq_true] at h
    rcases List.mem_cons.1 hm with rfl | hm
    · exact h.1
    · exact againAll_get h.2 hm
end Go.Proofs.YtijpomemobgddaaGreatDoor.Ev
