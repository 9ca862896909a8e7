/- Out of tables: a context that is the program's. -/
import Derived.Test.YtijpomemobgddaaGreatDoorE20
set_option linter.unusedSimpArgs false
set_option linter.unusedVariables false
namespace Go.Proofs.YtijpomemobgddaaGreatDoor.Ev
open Go Go.RowKit

theorem passK_in {C : Ctx} {k : List It} {st : St} {Q : Ex → St → Prop} {dst : Option Nat} {ms : List MOp} {f : FuncId} {l : List A} {m : MFn} (hB : C.B f = some m) (hp : isPass C f = true) (hO : C.XO f = none := by rfl) :
    PassK C f l dst ms st k Q ↔ (l.length ≤ m.nt ∧ RunK C [.code m.body] ⟨argE 0 l, st.H⟩ (RetK C m.res dst ms st.env k Q)) := by
  by_cases hl : l.length ≤ m.nt
  · rw [passK_pass hB hp hl hO]
    simp [hl]
  · constructor
    · rintro ⟨x, H', ⟨N, h⟩, -⟩
      cases N with
      | zero => simp [callQ.callO] at h
      | succ N => simp [callQ.callO, hO, hp, hB, runBody, if_neg hl] at h
    · intro h
      exact absurd h.1 hl
section
variable {H : Heap} {n : Nat}
theorem fz_v {x : Value} : freeze H (n + 1) (.v x) = some (.v x) := by simp only [freeze]
theorem fz_agg {cs : List A} : freeze H (n + 1) (.agg cs) = (mapO (freeze H n) cs).map .agg := by simp only [freeze]
theorem fz_tup {cs : List A} : freeze H (n + 1) (.tup cs) = (mapO (freeze H n) cs).map .tup := by simp only [freeze]
theorem fz_clo {f : FuncId} {fs caps : List A} : freeze H (n + 1) (.clo f fs caps) = match mapO (freeze H n) fs, mapO (freeze H n) caps with | some xs, some ys => some (.clo f xs ys) | _, _ => none := by
  simp only [freeze]
  rfl
theorem fz_sl {l : Nat} {cs : List A} : freeze H (n + 1) (.sl l cs) = some (.sl l cs) := by simp only [freeze]
theorem fz_fp {cs : List A} : freeze H (n + 1) (.fp cs) = some (.fp cs) := by simp only [freeze]
theorem fz_mf {cs : List A} : freeze H (n + 1) (.mf cs) = some (.mf cs) := by simp only [freeze]
theorem fz_mp {b : Nat} : freeze H (n + 1) (.mp b) = match H[b]? with | some (some k) => (mapO (freeze H n) k.cs).map .mf | _ => none := by
  simp only [freeze]
  rfl
theorem fz_ptr {b off : Nat} : freeze H (n + 1) (.ptr b off) = match H[b]? with | some (some k) => (mapO (freeze H n) (k.cs.drop off)).map .fp | _ => none := by
  simp only [freeze]
  rfl
theorem fz_ref {b off l sz : Nat} : freeze H (n + 1) (.ref b off l sz) = match H[b]? with | some (some k) => (if off + l * sz ≤ k.cs.length then (mapO (freeze H n) ((k.cs.drop off).take (l * sz))).map (.sl l) else none) | _ => none := by
  simp only [freeze]
  rfl
theorem holdR_shut {a : A} : holdR .shut H a = freeze H 20 a := rfl
theorem holdR_pass {a : A} : holdR .pass H a = freeze H 20 a := rfl
theorem holdR_trim {a : A} : holdR .trim H a = freeze H 20 a := rfl
theorem holdR_norm {a : A} : holdR .norm H a = (freeze H 20 a).map nrm := rfl
theorem mapO_nil {f : A → Option A} : mapO f [] = some [] := rfl
theorem mapO_cons {f : A → Option A} {c : A} {cs : List A} : mapO f (c :: cs) = match f c, mapO f cs with | some x, some xs => some (x :: xs) | _, _ => none := rfl
end
theorem look_cons {s t : Nat} {x : A} {l : Env} : look ((s, x) :: l) t = if s = t then some x else look l t := by
  by_cases h : s = t
  · subst h
    simp only [look, show Nat.beq s s = true from Nat.beq_refl s, cond_true, if_true]
  · have hb : Nat.beq s t = false := by
      cases hb : Nat.beq s t with
      | false => rfl
      | true => exact absurd (Nat.eq_of_beq_eq_true hb) h
    simp only [look, hb, cond_false, if_neg h]
theorem look_nil {t : Nat} : look [] t = none := rfl
theorem ite_yes {c : Prop} [Decidable c] {α : Type} {a b : α} (h : c) : (if c then a else b) = a := if_pos h
theorem ite_no {c : Prop} [Decidable c] {α : Type} {a b : α} (h : ¬ c) : (if c then a else b) = b := if_neg h
theorem dec_yes {c : Prop} [Decidable c] (h : c) : decide c = true := decide_eq_true h
theorem dec_no {c : Prop} [Decidable c] (h : ¬ c) : decide c = false := decide_eq_false h
theorem beq_yes {a b : Int} (h : a = b) : (a == b) = true := by simp [h]
theorem beq_no {a b : Int} (h : ¬ a = b) : (a == b) = false := by simp [h]
theorem bne_yes {a b : Int} (h : ¬ a = b) : (a != b) = true := by simp [h]
theorem bne_no {a b : Int} (h : a = b) : (a != b) = false := by simp [h]
theorem wrap_u8 {n : Int} (h : 0 ≤ n) (h' : n ≤ 255) : IntKind.u8.wrap n = n := by
  simp [IntKind.wrap, IntKind.bits, IntKind.signed]
  omega
theorem wrap_u16 {n : Int} (h : 0 ≤ n) (h' : n ≤ 65535) : IntKind.u16.wrap n = n := by
  simp [IntKind.wrap, IntKind.bits, IntKind.signed]
  omega
theorem wrap_u64 {n : Int} (h : 0 ≤ n) (h' : n ≤ 18446744073709551615) : IntKind.u64.wrap n = n := by
  simp [IntKind.wrap, IntKind.bits, IntKind.signed]
  omega
theorem wrap_i64 {n : Int} (h : -9223372036854775808 ≤ n) (h' : n ≤ 9223372036854775807) : IntKind.i64.wrap n = n := by
  simp [IntKind.wrap, IntKind.bits, IntKind.signed]
  omega
theorem tdiv_pos {a b : Int} (h : 0 ≤ a) : a.tdiv b = a / b := Int.tdiv_eq_ediv_of_nonneg h
theorem tmod_pos {a b : Int} (h : 0 ≤ a) : a.tmod b = a % b := Int.tmod_eq_emod_of_nonneg h
/-- What is alive ahead of the first region. -/
def headKeep : M → Option (List Nat)
  | .reg l _ _ => some l
  | .seq a _ => headKeep a
  | .block _ a => headKeep a
  | .loop a => headKeep a
  | _ => none
theorem keepE_congr {e e' : Env} : ∀ {l : List Nat}, (∀ s ∈ l, look e s = look e' s) → keepE e l = keepE e' l
  | [], _ => rfl
  | s :: l, h => by
    unfold keepE
    rw [h s (.head _), keepE_congr (l := l) fun t ht => h t (.tail _ ht)]
theorem keepE_keepE (e : Env) (l : List Nat) : keepE (keepE e l) l = keepE e l := keepE_congr fun s hs => by rw [look_keepE, if_pos hs]
theorem head_norm {C : Ctx} {H : Heap} {Q : Ex → St → Prop} {l : List Nat} {e : Env} : ∀ (a : M) (k : List It), headKeep a = some l → (RunK C (.code a :: k) ⟨e, H⟩ Q ↔ RunK C (.code a :: k) ⟨keepE e l, H⟩ Q)
  | .reg keep ops n, k, h => by
    simp only [headKeep, Option.some.injEq] at h
    subst h
    rw [runK_reg, runK_reg]
    simp only [keepE_keepE]
  | .seq a b, k, h => by
    rw [runK_seq, runK_seq]
    exact head_norm a _ h
  | .block id a, k, h => by
    rw [runK_block, runK_block]
    exact head_norm a _ h
  | .loop a, k, h => by
    rw [runK_loop, runK_loop]
    exact head_norm a _ h
  | .skip, _, h => by simp [headKeep] at h
  | .ops _, _, h => by simp [headKeep] at h
  | .again _, _, h => by simp [headKeep] at h
  | .cond _ _ _, _, h => by simp [headKeep] at h
  | .rf _ _ _ _ _ _, _, h => by simp [headKeep] at h
  | .exit _, _, h => by simp [headKeep] at h
  | .ret, _, h => by simp [headKeep] at h
  | .bad, _, h => by simp [headKeep] at h
/-- A loop's head sees what is alive there, and nothing else. -/
theorem loop_norm {C : Ctx} {H : Heap} {Q : Ex → St → Prop} {l : List Nat} {e : Env} {a : M} {k : List It} (h : headKeep a = some l) : RunK C (.code (.loop a) :: k) ⟨e, H⟩ Q ↔ RunK C (.code (.loop a) :: k) ⟨keepE e l, H⟩ Q := head_norm (.loop a) k h
def lookL {α : Type} : List (Nat × α) → Nat → Option α
  | [], _ => none
  | (k, x) :: l, n => bif Nat.beq k n then some x else lookL l n
theorem lookL_mem {α : Type} : ∀ {l : List (Nat × α)} {n : Nat} {x : α}, lookL l n = some x → (n, x) ∈ l
  | [], _, _, h => by cases h
  | (k, y) :: l, n, x, h => by
    unfold lookL at h
    cases hb : Nat.beq k n with
    | true =>
      rw [hb] at h
      simp only [cond_true, Option.some.injEq] at h
      rw [h, Nat.eq_of_beq_eq_true hb]
      exact .head _
    | false =>
      rw [hb] at h
      exact .tail _ (lookL_mem h)
def FnOk (P : Program) (f : FuncId) (m : MFn) : Prop :=
  ∃ fn code kp, P.funcs[f]? = some fn ∧ fn.body = some code ∧ fn.ntmps = m.nt ∧ fn.results.toList = m.res ∧ (fn.name == "runtime.NumGoroutine") = false ∧ cmp m.nt kp code = m.body
/-- Tables by their keys, for lookups in few steps. -/
inductive BT (α : Type) where
  | nil
  | node (k : Nat) (x : α) (l r : BT α)
def BT.get {α : Type} : BT α → Nat → Option α
  | .nil, _ => none
  | .node k x l r, n => bif Nat.beq n k then some x else bif Nat.ble n k then l.get n else r.get n
def BT.All {α : Type} (p : Nat → α → Prop) : BT α → Prop
  | .nil => True
  | .node k x l r => p k x ∧ l.All p ∧ r.All p
theorem BT.all_get {α : Type} {p : Nat → α → Prop} : ∀ {t : BT α} {n : Nat} {x : α}, t.All p → t.get n = some x → p n x
  | .nil, _, _, _, h => by cases h
  | .node k y l r, n, x, ha, h => by
    unfold BT.get at h
    cases hb : Nat.beq n k with
    | true =>
      rw [hb] at h
      simp only [cond_true, Option.some.injEq] at h
      rw [← h, Nat.eq_of_beq_eq_true hb]
      exact ha.1
    | false =>
      rw [hb] at h
      simp only [cond_false] at h
      cases hc : Nat.ble n k with
      | true =>
        rw [hc] at h
        exact BT.all_get ha.2.1 h
      | false =>
        rw [hc] at h
        exact BT.all_get ha.2.2 h
theorem ctxOk_of {P : Program} {tl : BT Ty} {gl : List (Nat × List Value)} {ifs : Nat → Bool} {fl : BT MFn} {X : FuncId → List A → Option A} {XO : FuncId → Option (List A → Heap → Option (A × Heap))} (h0 : P.follows .mixedOrders = true) (h1 : tl.All fun t ty => tyOf P t = some ty) (h2 : fl.All (FnOk P)) (h3 : QOk ⟨tl.get, ⟨lookL gl, lkOf, ifs⟩⟩ P X)
    (h4 : ∀ f g as H x H', XO f = some g → g as H = some (x, H') → FnOut ⟨tl.get, ⟨lookL gl, lkOf, ifs⟩⟩ P f as H x H') : CtxOk P ⟨⟨tl.get, ⟨lookL gl, lkOf, ifs⟩⟩, fl.get, X, XO⟩ :=
  ⟨h0, fun t ty h => BT.all_get (p := fun t ty => tyOf P t = some ty) h1 h, fun _ _ _ _ _ _ => Iff.rfl, fun f m h => BT.all_get h2 h, h3, h4⟩
theorem qOk_none {T : Tb} {P : Program} : QOk T P (fun _ _ => none) := fun _ _ _ h => by cases h
end Go.Proofs.YtijpomemobgddaaGreatDoor.Ev
