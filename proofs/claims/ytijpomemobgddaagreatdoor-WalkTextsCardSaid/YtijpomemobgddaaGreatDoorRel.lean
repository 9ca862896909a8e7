/- A law for a region that draws its order: its first k operations compute, read memory and make new memory: each of them is looked at once, alone, and whatever order is drawn serves; what is behind them stands in one forced order and is walked as it stands. In two forms: plain, and inside a fence. Conditions: a program under 'wide'; among the first k every slot is written once, and what an operation looks at is written by operations that its edges put ahead of it; each later one has all before it among its ancestors. -/
import Derived.WalkKit
import Derived.Orders
import Derived.OrdersIn
import Derived.TacticsIn
import Derived.Below
set_option linter.unusedSimpArgs false
set_option linter.unusedVariables false
namespace Go.Proofs.YtijpomemobgddaaGreatDoor.Rel
open Go Go.RowKit

variable {P : Program} {ops : List Oper}

/-- Nothing that was there has changed. -/
abbrev Grow (w w' : World) : Prop := Below w.heap.size w w'
theorem Grow.refl (w : World) : Grow w w := Below.refl _ _
theorem Grow.trans {a b c : World} (h : Grow a b) (k : Grow b c) : Grow a c := Below.trans h (Below.mono k h.size)
theorem Grow.drew (w : World) : Grow w w.drew := (Below.refl _ _).drew
theorem Grow.below {w w' : World} {B : Nat} (h : Grow w w') (hB : B ≤ w.heap.size) : Below B w w' := Below.mono h hB
theorem Grow.size {w w' : World} (h : Grow w w') : w.heap.size ≤ w'.heap.size := Below.size h
theorem Grow.cell {w w' : World} (h : Grow w w') {b o : Nat} (hb : b < w.heap.size) : w'.cell? ⟨b, o, none⟩ = w.cell? ⟨b, o, none⟩ := Below.cell (p := ⟨b, o, none⟩) h hb
theorem Grow.frozen {w w' : World} (h : Grow w w') {b o : Nat} (hb : b < w.heap.size) : w'.frozen? ⟨b, o, none⟩ = w.frozen? ⟨b, o, none⟩ := Below.frozen (p := ⟨b, o, none⟩) h hb
theorem Grow.grownBy {w w' : World} (h : Grow w w') (row : Option Nat) : w.grownBy w' row := ⟨h.os, h.tape, h.output, Below.size h, fun k hk _ => h.block k hk⟩

/-- The number of the operation that writes a slot. -/
def writer : List Oper → Nat → Tmp → Option Nat
  | [], _, _ => none
  | o :: l, i, t => if o.dst = some t then some i else writer l (i + 1) t

/-- The operations that one waits for, by its edges. -/
def preds (o : Oper) : List Nat := (o.after.toList.filter (Region.binds .any)).map (·.on)
/-- A witness: the ancestors of each, as bits. -/
def masks : List Oper → List Nat → List Nat
  | [], acc => acc
  | o :: l, acc => masks l (acc ++ [(preds o).foldl (fun m p => m ||| (1 <<< p) ||| acc.getD p 0) 0])

/-- The ancestors' witness is true of the edges; edges go back. -/
def ancOk (ops : List Oper) (M : List Nat) : Bool :=
  (List.range ops.length).all fun i =>
    match ops[i]? with
    | none => false
    | some o => decide (M.getD i 0 < 2 ^ i) && (preds o).all (fun p => decide (p < i)) && (List.range i).all fun j => !(M.getD i 0).testBit j || (preds o).any fun p => p == j || (M.getD p 0).testBit j
/-- From k on the order is forced. -/
def forced (ops : List Oper) (M : List Nat) (k : Nat) : Bool :=
  (List.range ops.length).all fun i => decide (i < k) || (List.range i).all fun j => (M.getD i 0).testBit j

/-- What an operation of the first k looks at and another of them writes is ahead of it by an edge; they write their slots once, inside the frame. -/
def fine (ops : List Oper) (n : Nat) (k : Nat) : Bool :=
  decide (k ≤ ops.length) && ancOk ops (masks ops []) && forced ops (masks ops []) k &&
  (List.range k).all fun i =>
    match ops[i]? with
    | none => false
    | some o =>
      (o.looksAt ops.toArray).all (fun t => match writer (ops.take k) 0 t with
        | none => true
        | some j => (preds o).contains j) &&
      (match o.dst with | none => false | some d => decide (d < n) && writer (ops.take k) 0 d == some i)

theorem writer_some : ∀ {l : List Oper} {k i : Nat} {t : Tmp}, writer l k t = some i → k ≤ i ∧ ∃ o, l[i - k]? = some o ∧ o.dst = some t
  | [], _, _, _, h => by simp [writer] at h
  | o :: l, k, i, t, h => by
    unfold writer at h
    split at h
    · rename_i hd
      obtain rfl := Option.some.inj h
      exact ⟨Nat.le_refl _, o, by simp, hd⟩
    · obtain ⟨h1, o', h2, h3⟩ := writer_some h
      refine ⟨by omega, o', ?_, h3⟩
      have : i - k = (i - (k + 1)) + 1 := by omega
      rw [this]
      simpa using h2
theorem writer_none : ∀ {l : List Oper} {k : Nat} {t : Tmp}, writer l k t = none → ∀ o ∈ l, o.dst ≠ some t
  | [], _, _, _, _, h => by cases h
  | o :: l, k, t, h, o', ho => by
    unfold writer at h
    split at h
    · cases h
    · rename_i hd
      cases ho with
      | head => exact hd
      | tail _ hm => exact writer_none h o' hm

theorem mem_preds {o : Oper} {p : Nat} : p ∈ preds o ↔ ∃ e ∈ o.after, Region.binds .any e = true ∧ e.on = p := by
  unfold preds
  rw [List.mem_map]
  constructor
  · rintro ⟨e, he, rfl⟩
    obtain ⟨h1, h2⟩ := List.mem_filter.1 he
    exact ⟨e, Array.mem_toList_iff.1 h1, h2, rfl⟩
  · rintro ⟨e, h1, h2, rfl⟩
    exact ⟨e, List.mem_filter.2 ⟨Array.mem_toList_iff.2 h1, h2⟩, rfl⟩

theorem lt_of_get {α : Type} {l : List α} {i : Nat} {o : α} (h : l[i]? = some o) : i < l.length := (List.getElem?_eq_some_iff.1 h).1

theorem ancOk_at {M : List Nat} {i : Nat} {o : Oper} (h : ancOk ops M = true) (ho : ops[i]? = some o) :
    (∀ p ∈ preds o, p < i) ∧ ∀ j, (M.getD i 0).testBit j = true → j < i ∧ ∃ p ∈ preds o, p = j ∨ (M.getD p 0).testBit j = true := by
  have h1 := List.all_eq_true.1 h i (List.mem_range.2 (lt_of_get ho))
  simp only [ho, Bool.and_eq_true, decide_eq_true_eq] at h1
  obtain ⟨⟨h0, h2⟩, h3⟩ := h1
  refine ⟨fun p hp => by simpa using List.all_eq_true.1 h2 p hp, fun j hb => ?_⟩
  have hj : j < i := by
    rcases Nat.lt_or_ge j i with h' | h'
    · exact h'
    · have := Nat.testBit_lt_two_pow (Nat.lt_of_lt_of_le h0 (Nat.pow_le_pow_right (by omega) h'))
      rw [hb] at this
      cases this
  have := List.all_eq_true.1 h3 j (List.mem_range.2 hj)
  rw [hb] at this
  simp only [Bool.not_true, Bool.false_or, List.any_eq_true, Bool.or_eq_true, beq_iff_eq] at this
  exact ⟨hj, this⟩

/-- What is listed waits for nothing. -/
def Closed (ops : List Oper) (listed : Array Bool) : Prop := ∀ i o, ops[i]? = some o → listed.getD i true = true → ∀ p ∈ preds o, listed.getD p true = true

theorem anc_listed {M : List Nat} {listed : Array Bool} (h : ancOk ops M = true) (hc : Closed ops listed) : ∀ (i : Nat) (o : Oper), ops[i]? = some o → (∀ p ∈ preds o, listed.getD p true = true) →
    ∀ j, (M.getD i 0).testBit j = true → listed.getD j true = true := by
  intro i
  induction i using Nat.strongRecOn with
  | ind i ih =>
    intro o ho hp j hb
    obtain ⟨h1, h2⟩ := ancOk_at h ho
    obtain ⟨hj, p, hpm, hpj⟩ := h2 j hb
    rcases hpj with rfl | hpj
    · exact hp p hpm
    · have hlt := h1 p hpm
      have hlen : p < ops.length := by have := lt_of_get ho; omega
      have hop : ops[p]? = some ops[p] := List.getElem?_eq_getElem hlen
      exact ih p hlt _ hop (fun q hq => hc p _ hop (hp p hpm) q hq) j hpj

theorem fine_at {n k i : Nat} {o : Oper} (h : fine ops n k = true) (ho : ops[i]? = some o) (hi : i < k) :
    (∀ t ∈ o.looksAt ops.toArray, ∀ j, writer (ops.take k) 0 t = some j → j ∈ preds o) ∧ (∃ d, o.dst = some d ∧ d < n ∧ writer (ops.take k) 0 d = some i) := by
  unfold fine at h
  simp only [Bool.and_eq_true] at h
  have h1 := List.all_eq_true.1 h.2 i (List.mem_range.2 hi)
  simp only [ho, Bool.and_eq_true] at h1
  obtain ⟨h2, h4⟩ := h1
  refine ⟨fun t ht j hj => ?_, ?_⟩
  · have := List.all_eq_true.1 h2 t ht
    simp only [hj] at this
    simpa using this
  · cases hd : o.dst with
    | none => simp [hd] at h4
    | some d =>
      simp only [hd, Bool.and_eq_true, decide_eq_true_eq, beq_iff_eq] at h4
      exact ⟨d, rfl, h4⟩
theorem fine_le {n k : Nat} (h : fine ops n k = true) : k ≤ ops.length := by
  unfold fine at h
  simp only [Bool.and_eq_true, decide_eq_true_eq] at h
  exact h.1.1.1
theorem fine_anc {n k : Nat} (h : fine ops n k = true) : ancOk ops (masks ops []) = true := by
  unfold fine at h
  simp only [Bool.and_eq_true] at h
  exact h.1.1.2
theorem fine_forced {n k : Nat} (h : fine ops n k = true) {i : Nat} (hi : i < ops.length) (hk : k ≤ i) : ∀ j, j < i → ((masks ops []).getD i 0).testBit j = true := by
  unfold fine at h
  simp only [Bool.and_eq_true] at h
  have := List.all_eq_true.1 h.1.2 i (List.mem_range.2 hi)
  intro j hj
  simp only [Bool.or_eq_true, decide_eq_true_eq] at this
  rcases this with h' | h'
  · omega
  · exact List.all_eq_true.1 h' j (List.mem_range.2 hj)

/-- What may come up. -/
theorem ready_spec {listed : Array Bool} {i : Nat} : i ∈ Region.ready .any ops.toArray listed ↔ listed.getD i true = false ∧ ∃ o, ops[i]? = some o ∧ ∀ p ∈ preds o, listed.getD p false = true := by
  rw [mem_ready]
  constructor
  · rintro ⟨h1, o, h2, h3⟩
    refine ⟨h1, o, by simpa using h2, fun p hp => ?_⟩
    obtain ⟨e, he, hb, rfl⟩ := mem_preds.1 hp
    exact h3 e he hb
  · rintro ⟨h1, o, h2, h3⟩
    exact ⟨h1, o, by simpa using h2, fun e he hb => h3 _ (mem_preds.2 ⟨e, he, hb, rfl⟩)⟩
theorem getD_mono {listed : Array Bool} {p : Nat} (h : listed.getD p false = true) : listed.getD p true = true := by
  simp only [Array.getD_eq_getD_getElem?] at *
  cases hp : listed[p]? with
  | none => simp
  | some b => simpa [hp] using h
theorem getD_lt {listed : Array Bool} {p : Nat} (h : listed.getD p true = true) (hp : p < listed.size) : listed.getD p false = true := by
  simpa [Array.getD_eq_getD_getElem?, Array.getElem?_eq_getElem hp] using h

/-- Where one behind the first k may come up, all ahead of it have. -/
theorem forced_ready {n k : Nat} {listed : Array Bool} {i : Nat} (hf : fine ops n k = true) (hc : Closed ops listed) (hi : i ∈ Region.ready .any ops.toArray listed) (hk : k ≤ i) : ∀ j, j < i → listed.getD j true = true := by
  obtain ⟨-, o, ho, hp⟩ := ready_spec.1 hi
  intro j hj
  exact anc_listed (fine_anc hf) hc i o ho (fun p hpm => getD_mono (hp p hpm)) j (fine_forced hf (lt_of_get ho) hk j hj)

/-- When nothing may come up any more, everything has come. -/
theorem ready_nil {M : List Nat} {listed : Array Bool} (hsz : listed.size = ops.length) (hf : ancOk ops M = true) (hr : Region.ready .any ops.toArray listed = []) : ∀ j, listed.getD j true = true := by
  intro j
  induction j using Nat.strongRecOn with
  | ind j ih =>
    rcases Nat.lt_or_ge j ops.length with hj | hj
    · cases hl : listed.getD j true with
      | true => rfl
      | false =>
        exfalso
        have ho : ops[j]? = some ops[j] := List.getElem?_eq_getElem hj
        have : j ∈ Region.ready .any ops.toArray listed := ready_spec.2 ⟨hl, ops[j], ho, fun p hp => by
          have hlt := (ancOk_at hf ho).1 p hp
          exact getD_lt (ih p hlt) (by omega)⟩
        rw [hr] at this
        cases this
    · simp [Array.getD_eq_getD_getElem?, Array.getElem?_eq_none (by omega : listed.size ≤ j)]

/-- What one operation must do in a world: it yields a value of which R holds, and the world grows by 'G' alone. -/
def opOk (P : Program) (G : World → World → Prop) (R : Value → World → Prop) (w : World) : Result Next → Prop
  | .ok (.value v) w' => G w w' ∧ R v w'
  | .ok .skip w' => G w w' ∧ R undef w'
  | .ok (.enter f args) w' => Calls P f args w' fun e w'' => ∃ v, e = .returned v ∧ G w w'' ∧ R v w''
  | _ => False

theorem opOk_enter {G : World → World → Prop} {R : Value → World → Prop} {w w' : World} {f : FuncId} {args : Array Value} (h : Calls P f args w' fun e w'' => ∃ v, e = .returned v ∧ G w w'' ∧ R v w'') : opOk P G R w (.ok (.enter f args) w') := h

/-- What is known of a slot that an operation looks at. -/
def slotFact (pre : List Oper) (F : List (Value → World → Prop)) (a a' : Act) (w' : World) (t : Tmp) : Prop :=
  match writer pre 0 t with
  | some j => (F.getD j fun _ _ => True) (a'.tmps.getD t undef) w'
  | none => a'.tmps.getD t undef = a.tmps.getD t undef

/-- What is asked of operation number i. -/
def opGoal (P : Program) (G : World → World → Prop) (ops : List Oper) (k : Nat) (F : List (Value → World → Prop)) (a : Act) (w : World) (i : Nat) (o : Oper) : Prop :=
  ∀ (a' : Act) (w' : World), G w w' → a'.tmps.size = a.tmps.size → (∀ t, (∀ j, writer (ops.take k) 0 t = some j → j ∈ preds o) → slotFact (ops.take k) F a a' w' t) →
    if Region.wanted o (yielded ops.toArray a'.tmps) then opOk P G (F.getD i fun _ _ => True) w' ((execOp a'.eval o).run P w') else (F.getD i fun _ _ => True) undef w'

def putAll (a : Act) : List Oper → List Value → Act
  | o :: l, v :: vs => putAll (a.put o.dst v) l vs
  | _, _ => a

def forAllV : List (Value → World → Prop) → World → (List Value → Prop) → Prop
  | [], _, K => K []
  | R :: Rs, w, K => ∀ v, R v w → forAllV Rs w fun vs => K (v :: vs)

theorem forAllV_at : ∀ {F : List (Value → World → Prop)} {w : World} {K : List Value → Prop}, forAllV F w K → ∀ vs : List Value, vs.length = F.length → (∀ (i : Nat) (R : Value → World → Prop) (v : Value), F[i]? = some R → vs[i]? = some v → R v w) → K vs
  | [], _, _, h, [], _, _ => h
  | [], _, _, _, _ :: _, hl, _ => by simp at hl
  | _ :: _, _, _, _, [], hl, _ => by simp at hl
  | R :: Rs, w, K, h, v :: vs, hl, hR => forAllV_at (h v (hR 0 R v rfl rfl)) vs (by simpa using hl) (fun i R' v' h1 h2 => hR (i + 1) R' v' (by simpa using h1) (by simpa using h2))

/-- Where some of the first k have come and none of the others. -/
structure Inv (G : World → World → Prop) (ops : List Oper) (k : Nat) (F : List (Value → World → Prop)) (a : Act) (w : World) (listed : Array Bool) (a' : Act) (w' : World) : Prop where
  grow : G w w'
  size : a'.tmps.size = a.tmps.size
  defers : a'.defers = a.defers
  facts : ∀ j o t, j < k → ops[j]? = some o → o.dst = some t → listed.getD j true = true → (F.getD j fun _ _ => True) (a'.tmps.getD t undef) w'
  rest : ∀ t, (∀ j o, j < k → ops[j]? = some o → o.dst = some t → listed.getD j true = false) → a'.tmps.getD t undef = a.tmps.getD t undef
  lsize : listed.size = ops.length
  closed : Closed ops listed
  late : ∀ j, k ≤ j → j < ops.length → listed.getD j true = false

theorem getD_put {a : Act} {t d : Tmp} {v : Value} (hd : d < a.tmps.size) : (a.put (some d) v).tmps.getD t undef = if t = d then v else a.tmps.getD t undef := by
  simp only [Act.put, Array.getD_eq_getD_getElem?, Array.getElem?_setIfInBounds]
  by_cases h : t = d
  · subst h; simp [hd]
  · simp [h, Ne.symm h]
theorem size_put {a : Act} {d : Option Tmp} {v : Value} : (a.put d v).tmps.size = a.tmps.size := by cases d <;> simp [Act.put]
theorem defers_put {a : Act} {d : Option Tmp} {v : Value} : (a.put d v).defers = a.defers := by cases d <;> simp [Act.put]

theorem getD_set_true {listed : Array Bool} {i j : Nat} (h : (listed.setIfInBounds i true).getD j true = false) : j ≠ i ∧ listed.getD j true = false := by
  simp only [Array.getD_eq_getD_getElem?, Array.getElem?_setIfInBounds] at *
  by_cases hij : i = j
  · subst hij
    rw [if_pos rfl] at h
    split at h <;> simp_all
  · simp only [hij, if_false] at h
    exact ⟨fun e => hij e.symm, h⟩
theorem getD_set_other {listed : Array Bool} {i j : Nat} (h : (listed.setIfInBounds i true).getD j true = true) (hj : j ≠ i) : listed.getD j true = true := by
  simp only [Array.getD_eq_getD_getElem?, Array.getElem?_setIfInBounds] at *
  rwa [if_neg (Ne.symm hj)] at h

theorem getD_set_keeps {listed : Array Bool} {i j : Nat} (h : listed.getD j true = true) : (listed.setIfInBounds i true).getD j true = true := by
  cases h' : (listed.setIfInBounds i true).getD j true with
  | true => rfl
  | false => rw [(getD_set_true h').2] at h; cases h
theorem closed_set {listed : Array Bool} {i : Nat} (hc : Closed ops listed) (hi : i ∈ Region.ready .any ops.toArray listed) : Closed ops (listed.setIfInBounds i true) := by
  obtain ⟨-, o, ho, hp⟩ := ready_spec.1 hi
  intro j oj hj hl p hpm
  by_cases hji : j = i
  · subst hji
    obtain rfl := Option.some.inj (ho.symm.trans hj)
    exact getD_set_keeps (getD_mono (hp p hpm))
  · exact getD_set_keeps (hc j oj hj (getD_set_other hl hji) p hpm)

theorem take_get {k i : Nat} {o : Oper} (h : (ops.take k)[i]? = some o) : ops[i]? = some o ∧ i < k := by
  have h1 := lt_of_get h
  simp at h1
  have h2 : i < k := by omega
  exact ⟨by rwa [List.getElem?_take_of_lt h2] at h, h2⟩

/-- One operation of the first k, carried out: the invariant stands with its number listed. -/
theorem Inv.step {G : World → World → Prop} {k : Nat} {F : List (Value → World → Prop)} {a a' : Act} {w w' w'' : World} {listed : Array Bool} {i : Nat} {o : Oper} {v : Value}
    (hst : ∀ i v w1 w2, G w w1 → G w1 w2 → (F.getD i fun _ _ => True) v w1 → (F.getD i fun _ _ => True) v w2) (htr : ∀ {a b c}, G a b → G b c → G a c)
    (hf : fine ops a.tmps.size k = true) (ho : ops[i]? = some o) (hik : i < k) (hi : i ∈ Region.ready .any ops.toArray listed) (h : Inv G ops k F a w listed a' w') (hG : G w' w'') (hR : (F.getD i fun _ _ => True) v w'') :
    Inv G ops k F a w (listed.setIfInBounds i true) (a'.put o.dst v) w'' := by
  obtain ⟨-, d, hd, hdn, hdw⟩ := fine_at hf ho hik
  rw [hd]
  have hlt : d < a'.tmps.size := by rw [h.size]; exact hdn
  refine ⟨htr h.grow hG, by rw [size_put, h.size], by rw [defers_put, h.defers], fun j oj t hjk hj ht hl => ?_, fun t ht => ?_, by simpa using h.lsize, closed_set h.closed hi, fun j hj hjl => ?_⟩
  · by_cases hji : j = i
    · subst hji
      obtain rfl := Option.some.inj (ho.symm.trans hj)
      obtain rfl := Option.some.inj (hd.symm.trans ht)
      simp only [getD_put hlt, if_true]
      exact hR
    · have h1 := hst j _ w' w'' h.grow hG (h.facts j oj t hjk hj ht (getD_set_other hl hji))
      rw [getD_put hlt, if_neg]
      · exact h1
      · intro e
        subst e
        obtain ⟨-, d', hd', -, hdw'⟩ := fine_at hf hj hjk
        obtain rfl := Option.some.inj (ht.symm.trans hd')
        exact hji (Option.some.inj (hdw'.symm.trans hdw))
  · have hold := h.rest t fun j oj hjk hj hdj => (getD_set_true (ht j oj hjk hj hdj)).2
    rw [getD_put hlt, if_neg]
    · exact hold
    · intro e
      subst e
      exact absurd rfl (getD_set_true (ht i o hik ho hd)).1
  · cases h' : (listed.setIfInBounds i true).getD j true with
    | false => rfl
    | true =>
      have := getD_set_other h' (by omega)
      rw [h.late j hj hjl] at this
      cases this

/-- What an operation that may come up looks at, is known. -/
theorem Inv.seen {G : World → World → Prop} {k : Nat} {F : List (Value → World → Prop)} {a a' : Act} {w w' : World} {listed : Array Bool} {i : Nat} {o : Oper}
    (hf : fine ops a.tmps.size k = true) (ho : ops[i]? = some o) (hik : i < k) (hr : i ∈ Region.ready .any ops.toArray listed) (h : Inv G ops k F a w listed a' w') : ∀ t, (∀ j, writer (ops.take k) 0 t = some j → j ∈ preds o) → slotFact (ops.take k) F a a' w' t := by
  intro t h1
  obtain ⟨-, o', ho', hall⟩ := ready_spec.1 hr
  obtain rfl := Option.some.inj (ho'.symm.trans ho)
  unfold slotFact
  cases hw : writer (ops.take k) 0 t with
  | none =>
    refine h.rest t fun j oj hjk hj hd => absurd hd (writer_none hw oj ?_)
    exact List.mem_of_getElem? (by rw [List.getElem?_take_of_lt hjk]; exact hj : (ops.take k)[j]? = some oj)
  | some j =>
    obtain ⟨-, oj, hoj, hd⟩ := writer_some hw
    obtain ⟨hoj', hjk⟩ := take_get (by simpa using hoj : (ops.take k)[j]? = some oj)
    exact h.facts j oj t hjk hoj' hd (getD_mono (hall j (h1 j hw)))

theorem size_of_getD {listed : Array Bool} {i : Nat} (hl : listed.getD i true = false) : i < listed.size := by
  rcases Nat.lt_or_ge i listed.size with h' | h'
  · exact h'
  · simp [Array.getD_eq_getD_getElem?, Array.getElem?_eq_none h'] at hl
theorem count_set {listed : Array Bool} {i : Nat} (hl : listed.getD i true = false) : (listed.setIfInBounds i true).toList.count false + 1 = listed.toList.count false := by
  have hlt := size_of_getD hl
  have hi' : listed[i] = false := by simpa [Array.getD_eq_getD_getElem?, Array.getElem?_eq_getElem hlt] using hl
  have hl2 : i < listed.toList.length := by simpa using hlt
  have hmem : false ∈ listed.toList := Array.mem_toList_iff.2 (by rw [← hi']; exact Array.getElem_mem hlt)
  have := List.count_pos_iff.2 hmem
  rw [Array.toList_setIfInBounds, List.count_set (h := hl2), if_pos (by simp [hi']), if_neg (by decide)]
  omega
theorem count_zero {listed : Array Bool} (hc : listed.toList.count false ≤ 0) : Region.ready .any ops.toArray listed = [] := by
  refine List.eq_nil_iff_forall_not_mem.2 fun j hj => ?_
  obtain ⟨hl, -⟩ := ready_spec.1 hj
  have := count_set hl
  omega

/-- The values that the operations have left, in the order of the text. -/
def leftIn (a' : Act) (ops : List Oper) : List Value := ops.map fun o => match o.dst with | some t => a'.tmps.getD t undef | none => undef

theorem putAll_spec : ∀ (l : List Oper) (vs : List Value) (a : Act) (t : Tmp), vs.length = l.length → (∀ o ∈ l, ∀ d, o.dst = some d → d < a.tmps.size) →
    (putAll a l vs).tmps.size = a.tmps.size ∧ (putAll a l vs).defers = a.defers ∧
    ((∀ o ∈ l, o.dst ≠ some t) → (putAll a l vs).tmps.getD t undef = a.tmps.getD t undef) ∧
    (∀ (i : Nat) o v, l[i]? = some o → vs[i]? = some v → o.dst = some t → (∀ (j : Nat) o', l[j]? = some o' → o'.dst = some t → j = i) → (putAll a l vs).tmps.getD t undef = v)
  | [], [], a, t, _, _ => ⟨rfl, rfl, fun _ => rfl, fun i o v h => by simp at h⟩
  | [], _ :: _, _, _, h, _ => by simp at h
  | _ :: _, [], _, _, h, _ => by simp at h
  | o :: l, v :: vs, a, t, hl, hd => by
    have ih := putAll_spec l vs (a.put o.dst v) t (by simpa using hl) (fun o' ho' d hd' => by rw [size_put]; exact hd o' (.tail _ ho') d hd')
    obtain ⟨i1, i2, i3, i4⟩ := ih
    refine ⟨by rw [putAll, i1, size_put], by rw [putAll, i2, defers_put], fun hno => ?_, fun i oi vi hoi hvi hdi huniq => ?_⟩
    · rw [putAll, i3 fun o' ho' => hno o' (.tail _ ho')]
      cases hdd : o.dst with
      | none => rfl
      | some d =>
        rw [getD_put (hd o (.head _) d hdd), if_neg]
        rintro rfl
        exact hno o (.head _) hdd
    · cases i with
      | zero =>
        simp at hoi hvi
        subst hoi hvi
        rw [putAll, i3]
        · rw [hdi, getD_put (hd o (.head _) t hdi), if_pos rfl]
        · intro o' ho' hd'
          obtain ⟨k, hk⟩ := List.mem_iff_getElem?.1 ho'
          have := huniq (k + 1) o' (by simpa using hk) hd'
          omega
      | succ i =>
        rw [putAll]
        refine i4 i oi vi (by simpa using hoi) (by simpa using hvi) hdi fun j o' hj hd' => ?_
        have := huniq (j + 1) o' (by simpa using hj) hd'
        omega

/-- All of the first k have come: the frame is the one that the text's order makes. -/
theorem Inv.full {G : World → World → Prop} {k : Nat} {F : List (Value → World → Prop)} {a a' : Act} {w w' : World} {listed : Array Bool} (hf : fine ops a.tmps.size k = true) (hlen : F.length = k)
    (I : Inv G ops k F a w listed a' w') (hall : ∀ j, j < k → listed.getD j true = true) {K : Act → Prop} (hQ : forAllV F w' fun vs => K (putAll a (ops.take k) vs)) : K a' := by
  have hk := fine_le hf
  have hv := forAllV_at hQ (leftIn a' (ops.take k)) (by simp [leftIn, hlen]; omega) ?_
  · have e : putAll a (ops.take k) (leftIn a' (ops.take k)) = a' := by
      have hd : ∀ o ∈ ops.take k, ∀ d, o.dst = some d → d < a.tmps.size := fun o ho d hd => by
        obtain ⟨i, hi⟩ := List.mem_iff_getElem?.1 ho
        obtain ⟨hi', hik⟩ := take_get hi
        obtain ⟨-, d', hd', hdn, -⟩ := fine_at hf hi' hik
        obtain rfl := Option.some.inj (hd.symm.trans hd')
        exact hdn
      have hs := fun t => putAll_spec (ops.take k) (leftIn a' (ops.take k)) a t (by simp [leftIn]) hd
      have e1 : (putAll a (ops.take k) (leftIn a' (ops.take k))).tmps = a'.tmps := by
        refine Array.ext (by rw [(hs 0).1, I.size]) fun t h1 h2 => ?_
        have hg : (putAll a (ops.take k) (leftIn a' (ops.take k))).tmps.getD t undef = a'.tmps.getD t undef := by
          cases hw : writer (ops.take k) 0 t with
          | none =>
            rw [(hs t).2.2.1 (writer_none hw), I.rest t fun j o hjk hj hd' => absurd hd' (writer_none hw o (List.mem_of_getElem? (by rw [List.getElem?_take_of_lt hjk]; exact hj : (ops.take k)[j]? = some o)))]
          | some i =>
            obtain ⟨-, o, ho, hdo⟩ := writer_some hw
            have ho1 : (ops.take k)[i]? = some o := by simpa using ho
            refine (hs t).2.2.2 i o _ ho1 ?_ hdo fun j o' hj hd' => ?_
            · simp only [leftIn, List.getElem?_map, ho1, Option.map_some, hdo]
            · obtain ⟨hj', hjk⟩ := take_get hj
              obtain ⟨-, d', hd'', -, hw'⟩ := fine_at hf hj' hjk
              obtain rfl := Option.some.inj (hd'.symm.trans hd'')
              rw [hw] at hw'
              exact (Option.some.inj hw').symm
        simpa [Array.getD_eq_getD_getElem?, h1, h2] using hg
      have e2 : (putAll a (ops.take k) (leftIn a' (ops.take k))).defers = a'.defers := by rw [(hs 0).2.1, I.defers]
      cases hp : putAll a (ops.take k) (leftIn a' (ops.take k))
      cases a'
      simp_all
    rwa [e] at hv
  · intro i R v hR hvi
    have hlt : i < k := by
      have := lt_of_get hR
      omega
    have hio : i < ops.length := by omega
    have ho : ops[i]? = some ops[i] := List.getElem?_eq_getElem hio
    obtain ⟨-, d, hd, -⟩ := fine_at hf ho hlt
    have := I.facts i ops[i] d hlt ho hd (hall i hlt)
    simp only [List.getD_eq_getElem?_getD, hR, Option.getD_some] at this
    have ho1 : (ops.take k)[i]? = some ops[i] := by rw [List.getElem?_take_of_lt hlt]; exact ho
    simp only [leftIn, List.getElem?_map, ho1, Option.map_some, Option.some.injEq, hd] at hvi
    rw [← hvi]
    exact this

/-- The start. -/
theorem Inv.start {G : World → World → Prop} {k : Nat} {F : List (Value → World → Prop)} {a : Act} {w w' : World} (hG : G w w') : Inv G ops k F a w (Array.replicate ops.length false) a w' :=
  ⟨hG, rfl, rfl, fun j o t hj ho _ hl => by have := lt_of_get ho; simp [this] at hl, fun t _ => rfl, by simp, fun i o ho hl => by have := lt_of_get ho; simp [this] at hl, fun j _ hj => by simp [hj]⟩
theorem count_start (n : Nat) : (Array.replicate n false).toList.count false ≤ n := by simp [List.count_replicate]

/-- What the prover tells of an operation: slots that it looks at, each with the operation that writes it; the slot of its guard. -/
structure Rec where
  looks : List (Tmp × Option Nat)
  guard : Option (Tmp × Bool)

/-- What is told is true of the region. -/
def told (ops : List Oper) (k : Nat) (D : List Rec) : Bool :=
  decide (D.length = k) && (List.range k).all fun i =>
    match ops[i]?, D[i]? with
    | some o, some d =>
      d.looks.all (fun (t, j) => writer (ops.take k) 0 t == j && (match j with | none => true | some j => (preds o).contains j)) &&
      (match o.guard, d.guard with
       | none, none => true
       | some (g, b), some (t, b') => (b == b') && (ops[g]?).bind (·.dst) == some t
       | _, _ => false)
    | _, _ => false

/-- The facts on the slots ahead of what is asked. -/
def Knows (F : List (Value → World → Prop)) (a a' : Act) (w' : World) : List (Tmp × Option Nat) → Prop → Prop
  | [], Q => Q
  | (t, none) :: l, Q => a'.tmps.getD t undef = a.tmps.getD t undef → Knows F a a' w' l Q
  | (t, some j) :: l, Q => (F.getD j fun _ _ => True) (a'.tmps.getD t undef) w' → Knows F a a' w' l Q

/-- Guarded or not. -/
def Guarded (a' : Act) : Option (Tmp × Bool) → Prop → Prop → Prop
  | none, Q, _ => Q
  | some (t, b), Q, Q' => ∃ b' : Bool, a'.tmps.getD t undef = .bool b' ∧ (b' = b → Q) ∧ (b' ≠ b → Q')

theorem told_at {k i : Nat} {D : List Rec} {o : Oper} (h : told ops k D = true) (ho : ops[i]? = some o) (hi : i < k) : ∃ d, D[i]? = some d ∧
    (∀ t j, (t, j) ∈ d.looks → writer (ops.take k) 0 t = j ∧ (∀ j', j = some j' → j' ∈ preds o)) ∧
    (match o.guard, d.guard with
       | none, none => True
       | some (g, b), some (t, b') => b = b' ∧ (ops[g]?).bind (·.dst) = some t
       | _, _ => False) := by
  unfold told at h
  simp only [Bool.and_eq_true] at h
  have h1 := List.all_eq_true.1 h.2 i (List.mem_range.2 hi)
  rw [ho] at h1
  cases hd : D[i]? with
  | none => simp [hd] at h1
  | some d =>
    simp only [hd, Bool.and_eq_true] at h1
    refine ⟨d, rfl, fun t j hm => ?_, ?_⟩
    · have := List.all_eq_true.1 h1.1 (t, j) hm
      simp only [Bool.and_eq_true, beq_iff_eq] at this
      refine ⟨this.1, fun j' hj' => ?_⟩
      subst hj'
      simpa using this.2
    · have h2 := h1.2
      cases hg : o.guard with
      | none => cases hg' : d.guard <;> simp_all
      | some g =>
        obtain ⟨g, b⟩ := g
        cases hg' : d.guard with
        | none => simp_all
        | some g' =>
          obtain ⟨t, b'⟩ := g'
          simp only [hg, hg', Bool.and_eq_true, beq_iff_eq] at h2
          simpa using h2

/-- All values alike in every world. -/
theorem stable_nil {G : World → World → Prop} {w : World} : ∀ R ∈ ([] : List (Value → World → Prop)), ∀ v w1 w2, G w w1 → G w1 w2 → R v w1 → R v w2 := fun R h => by cases h
theorem stable_eq {G : World → World → Prop} {w : World} {c : Value} {F : List (Value → World → Prop)} (h : ∀ R ∈ F, ∀ v w1 w2, G w w1 → G w1 w2 → R v w1 → R v w2) :
    ∀ R ∈ (fun v _ => v = c) :: F, ∀ v w1 w2, G w w1 → G w1 w2 → R v w1 → R v w2 := fun R hR => by
  cases hR with
  | head => exact fun v w1 w2 _ _ h => h
  | tail _ hm => exact h R hm
theorem stable_rel {G : World → World → Prop} {w : World} {R0 : Value → World → Prop} {F : List (Value → World → Prop)} (h0 : ∀ v w1 w2, G w w1 → G w1 w2 → R0 v w1 → R0 v w2) (h : ∀ R ∈ F, ∀ v w1 w2, G w w1 → G w1 w2 → R v w1 → R v w2) :
    ∀ R ∈ R0 :: F, ∀ v w1 w2, G w w1 → G w1 w2 → R v w1 → R v w2 := fun R hR => by
  cases hR with
  | head => exact h0
  | tail _ hm => exact h R hm
theorem forAllV_eq {c : Value} {F : List (Value → World → Prop)} {w : World} {K : List Value → Prop} (h : forAllV F w fun vs => K (c :: vs)) : forAllV ((fun v _ => v = c) :: F) w K := fun _ e => by subst e; exact h

theorem forAllV_rel {R : Value → World → Prop} {F : List (Value → World → Prop)} {w : World} {K : List Value → Prop} (h : ∀ v, R v w → forAllV F w fun vs => K (v :: vs)) : forAllV (R :: F) w K := h
theorem forAllV_nil {w : World} {K : List Value → Prop} (h : K []) : forAllV [] w K := h

/-! ### LAW -/
theorem wpOp_ok {G : World → World → Prop} {R : Value → World → Prop} {i : Nat} {o : Oper} {a' : Act} {w' : World} {K : Act → World → Prop} {Q : Exit → Act → World → Prop} (ho : ops[i]? = some o) (hrefl : G w' w')
    (hgo : if Region.wanted o (yielded ops.toArray a'.tmps) then opOk P G R w' ((execOp a'.eval o).run P w') else R undef w') (hK : ∀ v w'', G w' w'' → R v w'' → K (a'.put o.dst v) w'') : wpOp P ops.toArray Q i K a' w' := by
  unfold wpOp
  have ho' : ops.toArray[i]? = some o := by simpa using ho
  simp only [ho']
  split
  · rename_i hw
    rw [if_pos hw] at hgo
    refine .inl ?_
    unfold Oper.wp
    generalize (execOp a'.eval o).run P w' = r at hgo ⊢
    cases r with
    | ok n w2 =>
      cases n <;> simp only [opOk] at hgo <;> simp only [Oper.upon]
      case value v => exact hK _ _ hgo.1 hgo.2
      case skip => exact hK _ _ hgo.1 hgo.2
      case enter f args => exact hgo.mono fun e w'' ⟨v, he, hG, hR⟩ => by subst he; exact hK _ _ hG hR
    | halt x w2 => simp only [opOk] at hgo
  · rename_i hw
    rw [if_neg hw] at hgo
    exact hK _ _ hrefl hgo

theorem wpList_head {m : Nat} {o : Oper} {Q : Exit → Act → World → Prop} {a' : Act} {w' : World} (ho : ops[m]? = some o) (h : wpList P ops.toArray Q (ops.drop m) a' w') :
    wpOp P ops.toArray Q m (wpList P ops.toArray Q (ops.drop (m + 1))) a' w' := by
  have hlt := lt_of_get ho
  have e : ops.drop m = o :: ops.drop (m + 1) := by
    rw [List.drop_eq_getElem_cons hlt]
    congr 1
    exact Option.some.inj ((List.getElem?_eq_getElem hlt).symm.trans ho)
  rw [e] at h
  unfold wpOp
  have ho' : ops.toArray[m]? = some o := by simpa using ho
  simp only [ho']
  exact h

theorem wpAny_tail {n k : Nat} {Q : Exit → Act → World → Prop} (hf : fine ops n k = true) : ∀ (fuel m : Nat) (listed : Array Bool) (a' : Act) (w' : World), k ≤ m → listed.size = ops.length → Closed ops listed → listed.toList.count false ≤ fuel →
    (∀ j, j < m → listed.getD j true = true) → (∀ j, m ≤ j → j < ops.length → listed.getD j true = false) → wpList P ops.toArray Q (ops.drop m) a' w' → wpAny P .any ops.toArray Q fuel listed a' w' := by
  have hend : ∀ (m : Nat) (listed : Array Bool) (a' : Act) (w' : World), listed.size = ops.length → (∀ j, m ≤ j → j < ops.length → listed.getD j true = false) → wpList P ops.toArray Q (ops.drop m) a' w' → Region.ready .any ops.toArray listed = [] → Q .normal a' w' := by
    intro m listed a' w' hsz hl h hr
    have hm : ops.length ≤ m := by
      rcases Nat.lt_or_ge m ops.length with h' | h'
      · have h1 := hl m (Nat.le_refl _) h'
        rw [ready_nil hsz (fine_anc hf) hr m] at h1
        cases h1
      · exact h'
    rw [List.drop_eq_nil_of_le hm] at h
    exact h
  intro fuel
  induction fuel with
  | zero =>
    intro m listed a' w' hk hsz hc hcnt hlo hhi h
    exact ⟨count_zero hcnt, hend m listed a' w' hsz hhi h (count_zero hcnt)⟩
  | succ fuel ih =>
    intro m listed a' w' hk hsz hc hcnt hlo hhi h
    refine ⟨hend m listed a' w' hsz hhi h, fun i hi => ?_⟩
    obtain ⟨hl, o, ho, -⟩ := ready_spec.1 hi
    have him : m ≤ i := by
      rcases Nat.lt_or_ge i m with h' | h'
      · rw [hlo i h'] at hl; cases hl
      · exact h'
    obtain rfl : i = m := by
      rcases Nat.lt_or_ge m i with h' | h'
      · have h1 := forced_ready hf hc hi (by omega) m h'
        rw [hhi m (Nat.le_refl _) (by have := lt_of_get ho; omega)] at h1
        cases h1
      · omega
    refine wpOp_mono (fun a2 w2 h2 => ih (i + 1) _ a2 w2 (by omega) (by simpa using hsz) (closed_set hc hi) (by have := count_set hl; omega) (fun j hj => ?_) (fun j hj hjl => ?_) h2) (wpList_head ho h)
    · by_cases hji : j = i
      · subst hji
        have hlt := size_of_getD hl
        simp [Array.getD_eq_getD_getElem?, hlt]
      · exact getD_set_keeps (hlo j (by omega))
    · cases h' : (listed.setIfInBounds i true).getD j true with
      | false => rfl
      | true =>
        have := getD_set_other h' (by omega)
        rw [hhi j (by omega) hjl] at this
        cases this

theorem wpAny_rel {G : World → World → Prop} {k : Nat} {F : List (Value → World → Prop)} {Q : Exit → Act → World → Prop} {a : Act} {w : World} (hf : fine ops a.tmps.size k = true) (hlen : F.length = k)
    (hrefl : ∀ w, G w w) (htr : ∀ {a b c}, G a b → G b c → G a c)
    (hst : ∀ i v w1 w2, G w w1 → G w1 w2 → (F.getD i fun _ _ => True) v w1 → (F.getD i fun _ _ => True) v w2)
    (hop : ∀ i o, i < k → ops[i]? = some o → opGoal P G ops k F a w i o)
    (hQ : ∀ w', G w w' → forAllV F w' fun vs => wpList P ops.toArray Q (ops.drop k) (putAll a (ops.take k) vs) w') :
    ∀ (fuel : Nat) (listed : Array Bool) (a' : Act) (w' : World), listed.toList.count false ≤ fuel → Inv G ops k F a w listed a' w' → wpAny P .any ops.toArray Q fuel listed a' w' := by
  have hend : ∀ (fuel : Nat) (listed : Array Bool) (a' : Act) (w' : World), listed.toList.count false ≤ fuel → Inv G ops k F a w listed a' w' → (∀ j, j < k → listed.getD j true = true) → wpAny P .any ops.toArray Q fuel listed a' w' := by
    intro fuel listed a' w' hcnt I hall
    exact wpAny_tail hf fuel k listed a' w' (Nat.le_refl _) I.lsize I.closed hcnt hall I.late (I.full (K := fun a' => wpList P ops.toArray Q (ops.drop k) a' w') hf hlen hall (hQ w' I.grow))
  intro fuel
  induction fuel with
  | zero =>
    intro listed a' w' hcnt I
    exact hend 0 listed a' w' hcnt I fun j _ => ready_nil I.lsize (fine_anc hf) (count_zero hcnt) j
  | succ fuel ih =>
    intro listed a' w' hcnt I
    by_cases hall : ∀ j, j < k → listed.getD j true = true
    · exact hend _ listed a' w' hcnt I hall
    · refine ⟨fun hr => absurd (fun j _ => ready_nil I.lsize (fine_anc hf) hr j) hall, fun i hi => ?_⟩
      obtain ⟨hl, o, ho, -⟩ := ready_spec.1 hi
      have hik : i < k := by
        rcases Nat.lt_or_ge i k with h' | h'
        · exact h'
        · exact absurd (fun j hj => forced_ready hf I.closed hi h' j (by omega)) hall
      refine wpOp_ok (R := F.getD i fun _ _ => True) ho (hrefl _) (hop i o hik ho a' w' I.grow I.size (I.seen hf ho hik hi)) fun v w'' hG hR => ?_
      exact ih _ _ _ (by have := count_set hl; omega) (I.step hst htr hf ho hik hi hG hR)

theorem getD_stable {F : List (Value → World → Prop)} {G : World → World → Prop} {w : World} (hst : ∀ R ∈ F, ∀ v w1 w2, G w w1 → G w1 w2 → R v w1 → R v w2) :
    ∀ i v w1 w2, G w w1 → G w1 w2 → (F.getD i fun _ _ => True) v w1 → (F.getD i fun _ _ => True) v w2 := by
  intro i v w1 w2 h1 h2 h3
  rw [List.getD_eq_getElem?_getD] at h3 ⊢
  cases hi : F[i]? with
  | none => simp
  | some R =>
    simp only [hi, Option.getD_some] at h3 ⊢
    exact hst R (List.mem_of_getElem? hi) v w1 w2 h1 h2 h3

/-- THE LAW. F: of each of the first k operations, in the order of the text, what holds of the value that it leaves. -/
theorem wp_region_rel {id : Nat} {Q : Exit → Act → World → Prop} {a : Act} {w : World} (k : Nat) (G : World → World → Prop) (F : List (Value → World → Prop)) (hm : P.follows .mixedOrders = true)
    (hf : fine ops a.tmps.size k = true) (hlen : F.length = k)
    (hrefl : ∀ w, G w w) (htr : ∀ {a b c}, G a b → G b c → G a c) (hdrew : G w w.drew)
    (hst : ∀ R ∈ F, ∀ v w1 w2, G w w1 → G w1 w2 → R v w1 → R v w2)
    (hop : ∀ i o, i < k → ops[i]? = some o → opGoal P G ops k F a w i o)
    (hQ : ∀ w', G w w' → forAllV F w' fun vs => wpList P ops.toArray Q (ops.drop k) (putAll a (ops.take k) vs) w') : (Code.region id ops.toArray true).wp P Q a w := by
  refine wp_region_any hm ?_
  have := wpAny_rel (Q := Q) hf hlen hrefl htr (getD_stable hst) hop hQ _ _ _ _ (count_start ops.length) (Inv.start hdrew)
  simpa using this

/-- THE LEXICAL WALK: of each operation what holds of its value, whatever order is drawn. -/
def Lex (P : Program) (G : World → World → Prop) (a : Act) (w : World) (K : List (Value → World → Prop) → Prop) : List Oper → List Rec → List (Value → World → Prop) → Prop
  | o :: l, d :: D, F => ∃ R : Value → World → Prop, (∀ v w1 w2, G w w1 → G w1 w2 → R v w1 → R v w2) ∧
      (∀ (a' : Act) (w' : World), G w w' → Knows F a a' w' d.looks (Guarded a' d.guard (opOk P G R w' ((execOp a'.eval o).run P w')) (R undef w'))) ∧ Lex P G a w K l D (F ++ [R])
  | _, _, F => K F

theorem lex_spec {G : World → World → Prop} {k : Nat} {D : List Rec} {a : Act} {w : World} {K : List (Value → World → Prop) → Prop} (hf : fine ops a.tmps.size k = true) (ht : told ops k D = true) :
    ∀ (l : List Oper) (i : Nat) (F : List (Value → World → Prop)), i + l.length = k → (∀ j, l[j]? = (ops.take k)[i + j]?) → F.length = i →
      Lex P G a w K l (D.drop i) F → ∃ F', (F ++ F').length = k ∧ K (F ++ F') ∧ (∀ R ∈ F', ∀ v w1 w2, G w w1 → G w1 w2 → R v w1 → R v w2) ∧
        ∀ j o, i ≤ j → j < k → ops[j]? = some o → opGoal P G ops k (F ++ F') a w j o
  | [], i, F, hi, _, hF, h => by
    refine ⟨[], by simpa [hF] using hi, ?_, (fun R hR => (by cases hR)), (fun j o h1 h2 => (by simp at hi; omega))⟩
    rw [List.append_nil]
    simp only [Lex] at h
    exact h
  | o :: l, i, F, hi, hl, hF, h => by
    have hik : i < k := by simp at hi; omega
    have ho1 : (ops.take k)[i]? = some o := by simpa using (hl 0).symm
    have ho : ops[i]? = some o := (take_get ho1).1
    obtain ⟨d, hd, hlooks, hguard⟩ := told_at ht ho hik
    have hD : D.drop i = d :: D.drop (i + 1) := by
      have hlt := lt_of_get hd
      rw [List.drop_eq_getElem_cons hlt]
      congr 1
      exact Option.some.inj ((List.getElem?_eq_getElem hlt).symm.trans hd)
    rw [hD] at h
    simp only [Lex] at h
    obtain ⟨R, hR, hgo, hrest⟩ := h
    obtain ⟨F', h1, h2, h3, h4⟩ := lex_spec hf ht l (i + 1) (F ++ [R]) (by simp at hi ⊢; omega) (fun j => by have := hl (j + 1); simpa [Nat.add_assoc, Nat.add_comm 1 j] using this) (by simp [hF]) hrest
    have e : F ++ [R] ++ F' = F ++ (R :: F') := by simp
    rw [e] at h1 h2 h4
    refine ⟨R :: F', h1, h2, fun R' hR' => ?_, fun j oj h5 h6 hoj => ?_⟩
    · cases hR' with
      | head => exact hR
      | tail _ hm => exact h3 R' hm
    · by_cases hji : j = i
      · subst hji
        obtain rfl := Option.some.inj (ho.symm.trans hoj)
        intro a' w' hG hsz hfacts
        have key : ∀ (L : List (Tmp × Option Nat)) (Q : Prop), (∀ t m, (t, m) ∈ L → (t, m) ∈ d.looks) → Knows F a a' w' L Q → Q := by
          intro L
          induction L with
          | nil => exact fun Q _ h => h
          | cons x L ih =>
            obtain ⟨t, m⟩ := x
            intro Q hm hk
            obtain ⟨hw, hp⟩ := hlooks t m (hm t m (.head _))
            have hsf := hfacts t (fun j' hj' => hp j' (hw.symm.trans hj'))
            unfold slotFact at hsf
            rw [hw] at hsf
            cases m with
            | none => exact ih Q (fun t m h => hm t m (.tail _ h)) (hk hsf)
            | some m =>
              refine ih Q (fun t m h => hm t m (.tail _ h)) (hk ?_)
              have hlt : m < F.length := by
                obtain ⟨-, om, hom, -⟩ := writer_some hw
                have := (ancOk_at (fine_anc hf) ho).1 m (hp m rfl)
                omega
              simpa [List.getD_eq_getElem?_getD, List.getElem?_append_left hlt] using hsf
        have hgo' := key d.looks _ (fun _ _ h => h) (hgo a' w' hG)
        have hRj : ((F ++ (R :: F')).getD j fun _ _ => True) = R := by simp [List.getD_eq_getElem?_getD, ← hF]
        rw [hRj]
        cases hg : o.guard with
        | none =>
          cases hg' : d.guard with
          | none =>
            rw [hg'] at hgo'
            rw [if_pos (by simp [Region.wanted, hg])]
            exact hgo'
          | some g' => rw [hg, hg'] at hguard; exact hguard.elim
        | some g =>
          obtain ⟨g, b⟩ := g
          cases hg' : d.guard with
          | none => rw [hg, hg'] at hguard; exact hguard.elim
          | some g' =>
            obtain ⟨t, b'⟩ := g'
            rw [hg, hg'] at hguard
            rw [hg'] at hgo'
            obtain ⟨rfl, hdst⟩ := hguard
            obtain ⟨b', hb', hyes, hno⟩ := hgo'
            have hy : yielded ops.toArray a'.tmps g = some b' := by
              unfold yielded
              have e1 : (ops.toArray[g]?).bind (·.dst) = some t := by simpa using hdst
              rw [e1]
              simp only [Option.bind_some]
              rw [Array.getD_eq_getD_getElem?] at hb'
              cases hx : a'.tmps[t]? with
              | none => rw [hx] at hb'; simp [undef] at hb'
              | some x =>
                rw [hx] at hb'
                simp only [Option.getD_some] at hb'
                subst hb'
                rfl
            by_cases hbb : b' = b
            · rw [if_pos (by simp [Region.wanted, hg, hy, hbb])]
              exact hyes hbb
            · rw [if_neg (by simp [Region.wanted, hg, hy, hbb])]
              exact hno hbb
      · exact h4 j oj (by omega) h6 hoj

/-- THE LAW, WALKED IN THE TEXT's ORDER. -/
theorem wp_region_lex {id : Nat} {Q : Exit → Act → World → Prop} {a : Act} {w : World} (k : Nat) (D : List Rec) (G : World → World → Prop) (hm : P.follows .mixedOrders = true)
    (hf : fine ops a.tmps.size k = true) (ht : told ops k D = true)
    (hrefl : ∀ w, G w w) (htr : ∀ {a b c}, G a b → G b c → G a c) (hdrew : G w w.drew)
    (h : Lex P G a w (fun F => ∀ w', G w w' → forAllV F w' fun vs => wpList P ops.toArray Q (ops.drop k) (putAll a (ops.take k) vs) w') (ops.take k) D []) : (Code.region id ops.toArray true).wp P Q a w := by
  have hk := fine_le hf
  obtain ⟨F', h1, h2, h3, h4⟩ := lex_spec (G := G) hf ht (ops.take k) 0 [] (by simp; omega) (fun j => by simp) rfl (by simpa using h)
  rw [List.nil_append] at h1 h2 h4
  exact wp_region_rel k G F' hm hf h1 hrefl htr hdrew h3 (fun i o hi ho => h4 i o (by omega) hi ho) h2

theorem lex_eq {G : World → World → Prop} {a : Act} {w : World} {K : List (Value → World → Prop) → Prop} {o : Oper} {l : List Oper} {d : Rec} {D : List Rec} {F : List (Value → World → Prop)} (c : Value)
    (h : ∀ (a' : Act) (w' : World), G w w' → Knows F a a' w' d.looks (Guarded a' d.guard (opOk P G (fun v _ => v = c) w' ((execOp a'.eval o).run P w')) (undef = c)))
    (hr : Lex P G a w K l D (F ++ [fun v _ => v = c])) : Lex P G a w K (o :: l) (d :: D) F := ⟨_, fun _ _ _ _ _ h => h, h, hr⟩
theorem lex_rel {G : World → World → Prop} {a : Act} {w : World} {K : List (Value → World → Prop) → Prop} {o : Oper} {l : List Oper} {d : Rec} {D : List Rec} {F : List (Value → World → Prop)} (R : Value → World → Prop)
    (hs : ∀ v w1 w2, G w w1 → G w1 w2 → R v w1 → R v w2)
    (h : ∀ (a' : Act) (w' : World), G w w' → Knows F a a' w' d.looks (Guarded a' d.guard (opOk P G R w' ((execOp a'.eval o).run P w')) (R undef w')))
    (hr : Lex P G a w K l D (F ++ [R])) : Lex P G a w K (o :: l) (d :: D) F := ⟨_, hs, h, hr⟩
theorem lex_nil {G : World → World → Prop} {a : Act} {w : World} {K : List (Value → World → Prop) → Prop} {D : List Rec} {F : List (Value → World → Prop)} (h : K F) : Lex P G a w K [] D F := h

/-! ### THE SAME INSIDE A FENCE -/
section
variable {Fe : Fence} {n : Nat}
/-- What one operation must do. -/
def opOkIn (Fe : Fence) (n : Nat) (P : Program) (G : World → World → Prop) (R : Value → World → Prop) (w : World) : Result Next → Prop
  | .ok (.value v) w' => G w w' ∧ R v w'
  | .ok .skip w' => G w w' ∧ R undef w'
  | .ok (.enter f args) w' => CallsIn Fe (n - 1) P f args w' fun e w'' => ∃ v, e = .returned v ∧ G w w'' ∧ R v w''
  | _ => False
theorem opOkIn_enter {G : World → World → Prop} {R : Value → World → Prop} {w w' : World} {f : FuncId} {args : Array Value} (h : CallsIn Fe (n - 1) P f args w' fun e w'' => ∃ v, e = .returned v ∧ G w w'' ∧ R v w'') : opOkIn Fe n P G R w (.ok (.enter f args) w') := h
def opGoalIn (Fe : Fence) (n : Nat) (P : Program) (G : World → World → Prop) (ops : List Oper) (k : Nat) (F : List (Value → World → Prop)) (a : Act) (w : World) (i : Nat) (o : Oper) : Prop :=
  ∀ (a' : Act) (w' : World), G w w' → a'.tmps.size = a.tmps.size → (∀ t, (∀ j, writer (ops.take k) 0 t = some j → j ∈ preds o) → slotFact (ops.take k) F a a' w' t) →
    if Region.wanted o (yielded ops.toArray a'.tmps) then opOkIn Fe n P G (F.getD i fun _ _ => True) w' ((o.semAt Fe.round a'.eval).run P w') else (F.getD i fun _ _ => True) undef w'

theorem wpOpIn_ok {G : World → World → Prop} {R : Value → World → Prop} {i : Nat} {o : Oper} {a' : Act} {w' : World} {K : Act → World → Prop} {Q : Exit → Act → World → Prop} (hFn : ∀ f, Fe.fn f) (hFd : Fe.depth = none) (ho : ops[i]? = some o) (hrefl : G w' w')
    (hgo : if Region.wanted o (yielded ops.toArray a'.tmps) then opOkIn Fe n P G R w' ((o.semAt Fe.round a'.eval).run P w') else R undef w') (hK : ∀ v w'', G w' w'' → R v w'' → K (a'.put o.dst v) w'') : wpOpIn Fe n P ops.toArray Q i K a' w' := by
  unfold wpOpIn
  have ho' : ops.toArray[i]? = some o := by simpa using ho
  simp only [ho']
  split
  · rename_i hw
    rw [if_pos hw] at hgo
    unfold Oper.wpIn
    refine ⟨fun f _ => hFn f, ?_⟩
    generalize (o.semAt Fe.round a'.eval).run P w' = r at hgo ⊢
    cases r with
    | ok n w2 =>
      cases n <;> simp only [opOkIn] at hgo <;> simp only [Oper.uponIn]
      case value v => exact hK _ _ hgo.1 hgo.2
      case skip => exact hK _ _ hgo.1 hgo.2
      case enter f args => exact ⟨(fun h => (by rw [hFd] at h; cases h)), hgo.mono fun e w'' ⟨v, he, hG, hR⟩ => by subst he; exact hK _ _ hG hR⟩
    | halt x w2 => simp only [opOkIn] at hgo
  · rename_i hw
    rw [if_neg hw] at hgo
    exact ⟨fun f _ => hFn f, hK _ _ hrefl hgo⟩

theorem wpListIn_head {m : Nat} {o : Oper} {Q : Exit → Act → World → Prop} {a' : Act} {w' : World} (ho : ops[m]? = some o) (h : wpListIn Fe n P ops.toArray Q (ops.drop m) a' w') :
    wpOpIn Fe n P ops.toArray Q m (wpListIn Fe n P ops.toArray Q (ops.drop (m + 1))) a' w' := by
  have hlt := lt_of_get ho
  have e : ops.drop m = o :: ops.drop (m + 1) := by
    rw [List.drop_eq_getElem_cons hlt]
    congr 1
    exact Option.some.inj ((List.getElem?_eq_getElem hlt).symm.trans ho)
  rw [e] at h
  unfold wpOpIn
  have ho' : ops.toArray[m]? = some o := by simpa using ho
  simp only [ho']
  exact h

theorem wpAnyIn_tail {N k : Nat} {Q : Exit → Act → World → Prop} (hf : fine ops N k = true) : ∀ (fuel m : Nat) (listed : Array Bool) (a' : Act) (w' : World), k ≤ m → listed.size = ops.length → Closed ops listed → listed.toList.count false ≤ fuel →
    (∀ j, j < m → listed.getD j true = true) → (∀ j, m ≤ j → j < ops.length → listed.getD j true = false) → wpListIn Fe n P ops.toArray Q (ops.drop m) a' w' → wpAnyIn Fe n P .any ops.toArray Q fuel listed a' w' := by
  have hend : ∀ (m : Nat) (listed : Array Bool) (a' : Act) (w' : World), listed.size = ops.length → (∀ j, m ≤ j → j < ops.length → listed.getD j true = false) → wpListIn Fe n P ops.toArray Q (ops.drop m) a' w' → Region.ready .any ops.toArray listed = [] → Q .normal a' w' := by
    intro m listed a' w' hsz hl h hr
    have hm : ops.length ≤ m := by
      rcases Nat.lt_or_ge m ops.length with h' | h'
      · have h1 := hl m (Nat.le_refl _) h'
        rw [ready_nil hsz (fine_anc hf) hr m] at h1
        cases h1
      · exact h'
    rw [List.drop_eq_nil_of_le hm] at h
    exact h
  intro fuel
  induction fuel with
  | zero =>
    intro m listed a' w' hk hsz hc hcnt hlo hhi h
    exact ⟨count_zero hcnt, hend m listed a' w' hsz hhi h (count_zero hcnt)⟩
  | succ fuel ih =>
    intro m listed a' w' hk hsz hc hcnt hlo hhi h
    refine ⟨hend m listed a' w' hsz hhi h, fun i hi => ?_⟩
    obtain ⟨hl, o, ho, -⟩ := ready_spec.1 hi
    have him : m ≤ i := by
      rcases Nat.lt_or_ge i m with h' | h'
      · rw [hlo i h'] at hl; cases hl
      · exact h'
    obtain rfl : i = m := by
      rcases Nat.lt_or_ge m i with h' | h'
      · have h1 := forced_ready hf hc hi (by omega) m h'
        rw [hhi m (Nat.le_refl _) (by have := lt_of_get ho; omega)] at h1
        cases h1
      · omega
    refine wpOpIn_mono (fun a2 w2 h2 => ih (i + 1) _ a2 w2 (by omega) (by simpa using hsz) (closed_set hc hi) (by have := count_set hl; omega) (fun j hj => ?_) (fun j hj hjl => ?_) h2) (wpListIn_head ho h)
    · by_cases hji : j = i
      · subst hji
        have hlt := size_of_getD hl
        simp [Array.getD_eq_getD_getElem?, hlt]
      · exact getD_set_keeps (hlo j (by omega))
    · cases h' : (listed.setIfInBounds i true).getD j true with
      | false => rfl
      | true =>
        have := getD_set_other h' (by omega)
        rw [hhi j (by omega) hjl] at this
        cases this

theorem wpAnyIn_rel (hFn : ∀ f, Fe.fn f) (hFd : Fe.depth = none) {G : World → World → Prop} {k : Nat} {F : List (Value → World → Prop)} {Q : Exit → Act → World → Prop} {a : Act} {w : World} (hf : fine ops a.tmps.size k = true) (hlen : F.length = k)
    (hrefl : ∀ w, G w w) (htr : ∀ {a b c}, G a b → G b c → G a c)
    (hst : ∀ i v w1 w2, G w w1 → G w1 w2 → (F.getD i fun _ _ => True) v w1 → (F.getD i fun _ _ => True) v w2)
    (hop : ∀ i o, i < k → ops[i]? = some o → opGoalIn Fe n P G ops k F a w i o)
    (hQ : ∀ w', G w w' → forAllV F w' fun vs => wpListIn Fe n P ops.toArray Q (ops.drop k) (putAll a (ops.take k) vs) w') :
    ∀ (fuel : Nat) (listed : Array Bool) (a' : Act) (w' : World), listed.toList.count false ≤ fuel → Inv G ops k F a w listed a' w' → wpAnyIn Fe n P .any ops.toArray Q fuel listed a' w' := by
  have hend : ∀ (fuel : Nat) (listed : Array Bool) (a' : Act) (w' : World), listed.toList.count false ≤ fuel → Inv G ops k F a w listed a' w' → (∀ j, j < k → listed.getD j true = true) → wpAnyIn Fe n P .any ops.toArray Q fuel listed a' w' := by
    intro fuel listed a' w' hcnt I hall
    exact wpAnyIn_tail hf fuel k listed a' w' (Nat.le_refl _) I.lsize I.closed hcnt hall I.late (I.full (K := fun a' => wpListIn Fe n P ops.toArray Q (ops.drop k) a' w') hf hlen hall (hQ w' I.grow))
  intro fuel
  induction fuel with
  | zero =>
    intro listed a' w' hcnt I
    exact hend 0 listed a' w' hcnt I fun j _ => ready_nil I.lsize (fine_anc hf) (count_zero hcnt) j
  | succ fuel ih =>
    intro listed a' w' hcnt I
    by_cases hall : ∀ j, j < k → listed.getD j true = true
    · exact hend _ listed a' w' hcnt I hall
    · refine ⟨fun hr => absurd (fun j _ => ready_nil I.lsize (fine_anc hf) hr j) hall, fun i hi => ?_⟩
      obtain ⟨hl, o, ho, -⟩ := ready_spec.1 hi
      have hik : i < k := by
        rcases Nat.lt_or_ge i k with h' | h'
        · exact h'
        · exact absurd (fun j hj => forced_ready hf I.closed hi h' j (by omega)) hall
      refine wpOpIn_ok (n := n) (R := F.getD i fun _ _ => True) hFn hFd ho (hrefl _) (hop i o hik ho a' w' I.grow I.size (I.seen hf ho hik hi)) fun v w'' hG hR => ?_
      exact ih _ _ _ (by have := count_set hl; omega) (I.step hst htr hf ho hik hi hG hR)

/-- THE LAW. F: of each of the first k operations, in the order of the text, what holds of the value that it leaves. -/
theorem wpIn_region_rel (hFn : ∀ f, Fe.fn f) (hFd : Fe.depth = none) {id : Nat} {Q : Exit → Act → World → Prop} {a : Act} {w : World} (k : Nat) (G : World → World → Prop) (F : List (Value → World → Prop)) (hm : P.follows .mixedOrders = true)
    (hf : fine ops a.tmps.size k = true) (hlen : F.length = k)
    (hrefl : ∀ w, G w w) (htr : ∀ {a b c}, G a b → G b c → G a c) (hdrew : G w w.drew)
    (hst : ∀ R ∈ F, ∀ v w1 w2, G w w1 → G w1 w2 → R v w1 → R v w2)
    (hop : ∀ i o, i < k → ops[i]? = some o → opGoalIn Fe n P G ops k F a w i o)
    (hQ : ∀ w', G w w' → forAllV F w' fun vs => wpListIn Fe n P ops.toArray Q (ops.drop k) (putAll a (ops.take k) vs) w') : (Code.region id ops.toArray true).wpIn Fe n P Q a w := by
  refine wpIn_region_any hm ?_
  have := wpAnyIn_rel (Q := Q) hFn hFd hf hlen hrefl htr (getD_stable hst) hop hQ _ _ _ _ (count_start ops.length) (Inv.start hdrew)
  simpa using this

/-- THE LEXICAL WALK: of each operation what holds of its value, whatever order is drawn. -/
def LexIn (Fe : Fence) (n : Nat) (P : Program) (G : World → World → Prop) (a : Act) (w : World) (K : List (Value → World → Prop) → Prop) : List Oper → List Rec → List (Value → World → Prop) → Prop
  | o :: l, d :: D, F => ∃ R : Value → World → Prop, (∀ v w1 w2, G w w1 → G w1 w2 → R v w1 → R v w2) ∧
      (∀ (a' : Act) (w' : World), G w w' → Knows F a a' w' d.looks (Guarded a' d.guard (opOkIn Fe n P G R w' ((o.semAt Fe.round a'.eval).run P w')) (R undef w'))) ∧ LexIn Fe n P G a w K l D (F ++ [R])
  | _, _, F => K F

theorem lexIn_spec {G : World → World → Prop} {k : Nat} {D : List Rec} {a : Act} {w : World} {K : List (Value → World → Prop) → Prop} (hf : fine ops a.tmps.size k = true) (ht : told ops k D = true) :
    ∀ (l : List Oper) (i : Nat) (F : List (Value → World → Prop)), i + l.length = k → (∀ j, l[j]? = (ops.take k)[i + j]?) → F.length = i →
      LexIn Fe n P G a w K l (D.drop i) F → ∃ F', (F ++ F').length = k ∧ K (F ++ F') ∧ (∀ R ∈ F', ∀ v w1 w2, G w w1 → G w1 w2 → R v w1 → R v w2) ∧
        ∀ j o, i ≤ j → j < k → ops[j]? = some o → opGoalIn Fe n P G ops k (F ++ F') a w j o
  | [], i, F, hi, _, hF, h => by
    refine ⟨[], by simpa [hF] using hi, ?_, (fun R hR => (by cases hR)), (fun j o h1 h2 => (by simp at hi; omega))⟩
    rw [List.append_nil]
    simp only [LexIn] at h
    exact h
  | o :: l, i, F, hi, hl, hF, h => by
    have hik : i < k := by simp at hi; omega
    have ho1 : (ops.take k)[i]? = some o := by simpa using (hl 0).symm
    have ho : ops[i]? = some o := (take_get ho1).1
    obtain ⟨d, hd, hlooks, hguard⟩ := told_at ht ho hik
    have hD : D.drop i = d :: D.drop (i + 1) := by
      have hlt := lt_of_get hd
      rw [List.drop_eq_getElem_cons hlt]
      congr 1
      exact Option.some.inj ((List.getElem?_eq_getElem hlt).symm.trans hd)
    rw [hD] at h
    simp only [LexIn] at h
    obtain ⟨R, hR, hgo, hrest⟩ := h
    obtain ⟨F', h1, h2, h3, h4⟩ := lexIn_spec hf ht l (i + 1) (F ++ [R]) (by simp at hi ⊢; omega) (fun j => by have := hl (j + 1); simpa [Nat.add_assoc, Nat.add_comm 1 j] using this) (by simp [hF]) hrest
    have e : F ++ [R] ++ F' = F ++ (R :: F') := by simp
    rw [e] at h1 h2 h4
    refine ⟨R :: F', h1, h2, fun R' hR' => ?_, fun j oj h5 h6 hoj => ?_⟩
    · cases hR' with
      | head => exact hR
      | tail _ hm => exact h3 R' hm
    · by_cases hji : j = i
      · subst hji
        obtain rfl := Option.some.inj (ho.symm.trans hoj)
        intro a' w' hG hsz hfacts
        have key : ∀ (L : List (Tmp × Option Nat)) (Q : Prop), (∀ t m, (t, m) ∈ L → (t, m) ∈ d.looks) → Knows F a a' w' L Q → Q := by
          intro L
          induction L with
          | nil => exact fun Q _ h => h
          | cons x L ih =>
            obtain ⟨t, m⟩ := x
            intro Q hm hk
            obtain ⟨hw, hp⟩ := hlooks t m (hm t m (.head _))
            have hsf := hfacts t (fun j' hj' => hp j' (hw.symm.trans hj'))
            unfold slotFact at hsf
            rw [hw] at hsf
            cases m with
            | none => exact ih Q (fun t m h => hm t m (.tail _ h)) (hk hsf)
            | some m =>
              refine ih Q (fun t m h => hm t m (.tail _ h)) (hk ?_)
              have hlt : m < F.length := by
                obtain ⟨-, om, hom, -⟩ := writer_some hw
                have := (ancOk_at (fine_anc hf) ho).1 m (hp m rfl)
                omega
              simpa [List.getD_eq_getElem?_getD, List.getElem?_append_left hlt] using hsf
        have hgo' := key d.looks _ (fun _ _ h => h) (hgo a' w' hG)
        have hRj : ((F ++ (R :: F')).getD j fun _ _ => True) = R := by simp [List.getD_eq_getElem?_getD, ← hF]
        rw [hRj]
        cases hg : o.guard with
        | none =>
          cases hg' : d.guard with
          | none =>
            rw [hg'] at hgo'
            rw [if_pos (by simp [Region.wanted, hg])]
            exact hgo'
          | some g' => rw [hg, hg'] at hguard; exact hguard.elim
        | some g =>
          obtain ⟨g, b⟩ := g
          cases hg' : d.guard with
          | none => rw [hg, hg'] at hguard; exact hguard.elim
          | some g' =>
            obtain ⟨t, b'⟩ := g'
            rw [hg, hg'] at hguard
            rw [hg'] at hgo'
            obtain ⟨rfl, hdst⟩ := hguard
            obtain ⟨b', hb', hyes, hno⟩ := hgo'
            have hy : yielded ops.toArray a'.tmps g = some b' := by
              unfold yielded
              have e1 : (ops.toArray[g]?).bind (·.dst) = some t := by simpa using hdst
              rw [e1]
              simp only [Option.bind_some]
              rw [Array.getD_eq_getD_getElem?] at hb'
              cases hx : a'.tmps[t]? with
              | none => rw [hx] at hb'; simp [undef] at hb'
              | some x =>
                rw [hx] at hb'
                simp only [Option.getD_some] at hb'
                subst hb'
                rfl
            by_cases hbb : b' = b
            · rw [if_pos (by simp [Region.wanted, hg, hy, hbb])]
              exact hyes hbb
            · rw [if_neg (by simp [Region.wanted, hg, hy, hbb])]
              exact hno hbb
      · exact h4 j oj (by omega) h6 hoj

/-- THE LAW, WALKED IN THE TEXT's ORDER. -/
theorem wpIn_region_lex (hFn : ∀ f, Fe.fn f) (hFd : Fe.depth = none) {id : Nat} {Q : Exit → Act → World → Prop} {a : Act} {w : World} (k : Nat) (D : List Rec) (G : World → World → Prop) (hm : P.follows .mixedOrders = true)
    (hf : fine ops a.tmps.size k = true) (ht : told ops k D = true)
    (hrefl : ∀ w, G w w) (htr : ∀ {a b c}, G a b → G b c → G a c) (hdrew : G w w.drew)
    (h : LexIn Fe n P G a w (fun F => ∀ w', G w w' → forAllV F w' fun vs => wpListIn Fe n P ops.toArray Q (ops.drop k) (putAll a (ops.take k) vs) w') (ops.take k) D []) : (Code.region id ops.toArray true).wpIn Fe n P Q a w := by
  have hk := fine_le hf
  obtain ⟨F', h1, h2, h3, h4⟩ := lexIn_spec (G := G) hf ht (ops.take k) 0 [] (by simp; omega) (fun j => by simp) rfl (by simpa using h)
  rw [List.nil_append] at h1 h2 h4
  exact wpIn_region_rel hFn hFd k G F' hm hf h1 hrefl htr hdrew h3 (fun i o hi ho => h4 i o (by omega) hi ho) h2

theorem lexIn_eq {G : World → World → Prop} {a : Act} {w : World} {K : List (Value → World → Prop) → Prop} {o : Oper} {l : List Oper} {d : Rec} {D : List Rec} {F : List (Value → World → Prop)} (c : Value)
    (h : ∀ (a' : Act) (w' : World), G w w' → Knows F a a' w' d.looks (Guarded a' d.guard (opOkIn Fe n P G (fun v _ => v = c) w' ((o.semAt Fe.round a'.eval).run P w')) (undef = c)))
    (hr : LexIn Fe n P G a w K l D (F ++ [fun v _ => v = c])) : LexIn Fe n P G a w K (o :: l) (d :: D) F := ⟨_, fun _ _ _ _ _ h => h, h, hr⟩
theorem lexIn_rel {G : World → World → Prop} {a : Act} {w : World} {K : List (Value → World → Prop) → Prop} {o : Oper} {l : List Oper} {d : Rec} {D : List Rec} {F : List (Value → World → Prop)} (R : Value → World → Prop)
    (hs : ∀ v w1 w2, G w w1 → G w1 w2 → R v w1 → R v w2)
    (h : ∀ (a' : Act) (w' : World), G w w' → Knows F a a' w' d.looks (Guarded a' d.guard (opOkIn Fe n P G R w' ((o.semAt Fe.round a'.eval).run P w')) (R undef w')))
    (hr : LexIn Fe n P G a w K l D (F ++ [R])) : LexIn Fe n P G a w K (o :: l) (d :: D) F := ⟨_, hs, h, hr⟩
theorem lexIn_nil {G : World → World → Prop} {a : Act} {w : World} {K : List (Value → World → Prop) → Prop} {D : List Rec} {F : List (Value → World → Prop)} (h : K F) : LexIn Fe n P G a w K [] D F := h

end
end Go.Proofs.YtijpomemobgddaaGreatDoor.Rel
