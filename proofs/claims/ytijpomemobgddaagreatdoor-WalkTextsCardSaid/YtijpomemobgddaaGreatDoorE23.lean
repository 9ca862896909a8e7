/- Drawn regions in general: operations that hang on their operands alone, and new blocks, come up early or late; all others in the canonical order. -/
import Derived.Test.YtijpomemobgddaaGreatDoorE17
set_option linter.unusedSimpArgs false
set_option linter.unusedVariables false
namespace Go.Proofs.YtijpomemobgddaaGreatDoor.Ev
open Go Go.RowKit
variable {P : Program} {T : Tb}

/-- Operations whose value hangs on their operands' values alone. -/
def pureOp : Op → Bool
  | .move _ | .assign _ | .pick _ _ _ | .binOp _ _ _ _ _ | .unOp _ _ _ | .extract _ _ | .fieldAddr _ _ _ | .indexAddr _ _ _ => true
  | .convert _ t _ => !Nat.beq t 9
  | _ => false
theorem pure_heap {e : Env} {op : Op} (h : pureOp op = true) (H H' : Heap) : quietOp T e H op = quietOp T e H' op := by
  cases op with
  | convert s t x =>
    simp only [pureOp, Bool.not_eq_true'] at h
    simp only [quietOp, h, cond_false]
  | _ => first | rfl | (simp [pureOp] at h; done)
theorem pure_calls {e : Env} {op : Op} (h : pureOp op = true) : calls e op = none := by
  cases op <;> first | rfl | (simp [pureOp] at h; done)
theorem pure_loud {e : Env} {H : Heap} {op : Op} (h : pureOp op = true) : loudOp T e H op = none := by
  cases op <;> first | rfl | (simp [pureOp] at h; done)
theorem pure_free {q : OrcQ} {st : St} {op : Op} (h : pureOp op = true) : freeOp T q st op = quietOp T st.env st.H op := by
  cases op <;> first | rfl | (simp [pureOp] at h; done)
theorem pure_any {ov : Orc} {st : St} {op : Op} (h : pureOp op = true) : anyOp T ov st op = (quietOp T st.env st.H op).map fun a => (a, st.H) := by
  unfold anyOp
  rw [pure_calls h, pure_loud h]

theorem loud_congr {e e' : Env} {H : Heap} {op : Op} (h : Agree op.operands.toList e e') : loudOp T e H op = loudOp T e' H op := by
  cases op with
  | box t x => simp only [loudOp]; rw [h x (by simp [Op.operands])]
  | buildSlice t n ps => simp only [loudOp]; rw [lit_congr h]
  | store t x y => simp only [loudOp]; rw [h x (by simp [Op.operands]), h y (by simp [Op.operands])]
  | makeSlice t x y => simp only [loudOp]; rw [h x (by simp [Op.operands]), h y (by simp [Op.operands])]
  | call cl =>
    simp only [loudOp]
    rw [Agree.opnds (l := cl.args.toList) (fun y hy => h y (by simp [Op.operands, Call.operands]; simp at hy; simp [hy]))]
  | insert t m k v =>
    simp only [loudOp, putMap]
    rw [h m (by simp [Op.operands]), h k (by simp [Op.operands]), h v (by simp [Op.operands])]
  | mapUpdate t m k v =>
    simp only [loudOp, putMap]
    rw [h m (by simp [Op.operands]), h k (by simp [Op.operands]), h v (by simp [Op.operands])]
  | mapEntry t m k =>
    simp only [loudOp, entryA]
    rw [h m (by simp [Op.operands]), h k (by simp [Op.operands])]
  | entryStore t m s v =>
    simp only [loudOp, storeE]
    rw [h m (by simp [Op.operands]), h s (by simp [Op.operands]), h v (by simp [Op.operands])]
  | makeMap t r => cases r <;> simp only [loudOp]
  | range t x => simp only [loudOp]; rw [h x (by simp [Op.operands])]
  | next x b => simp only [loudOp, nextA]; rw [h x (by simp [Op.operands])]
  | _ => rfl
theorem any_congr {ov : Orc} {e e' : Env} {H : Heap} {op : Op} (h : Agree op.operands.toList e e') : anyOp T ov ⟨e, H⟩ op = anyOp T ov ⟨e', H⟩ op := by
  unfold anyOp
  simp only
  rw [calls_congr h, loud_congr h, quiet_congr h]

/-! ### The plan of a region -/
def isAl (o : Oper) : Bool := match o.op, o.guard, o.dst with | .alloc _, none, some _ => true | _, _, _ => false
def isMem (o : Oper) : Bool := !pureOp o.op && !isAl o
def posOf (ord : List Nat) (i : Nat) : Nat := ord.findIdx (fun j => Nat.beq j i)
def opA (ops : List Oper) (p : Oper → Bool) (i : Nat) : Bool := match ops[i]? with | some o => p o | none => false
def anc (M : List Nat) (i j : Nat) : Bool := (M.getD i 0).testBit j
def userOf (ops : List Oper) (ord : List Nat) (i : Nat) : Option Nat := (ord.drop (posOf ord i + 1)).find? (opA ops isMem)
/-- May it come up in any order? (a hint; ps: functions that work in their caller's blocks) -/
def mayFree (ps : List Nat) (o : Oper) : Bool := match o.op with
  | .alloc _ | .box _ _ | .store _ _ _ | .makeSlice _ _ _ | .makeMap _ _ | .insert _ _ _ _ | .mapUpdate _ _ _ _ | .mapEntry _ _ _ | .entryStore _ _ _ _ | .range _ _ | .next _ _ => false
  | .call c => match c.callee with
    | .builtin .append | .builtin .copy | .builtin .unsafeString => false
    | .value (.func f) => !(ps.contains f)
    | _ => true
  | _ => true
/-- A store into a block that this region makes. -/
def newSt (ops : List Oper) (o : Oper) : Bool := match o.op with
  | .store _ (.tmp x) _ => match Rel.writer ops 0 x with
    | some j => opA ops isAl j && (Rel.preds o).contains j
    | none => false
  | _ => false
/-- Could it be looked at again? -/
def agn (ops : List Oper) (o : Oper) : Bool := (o.looksAt ops.toArray).all fun t => match Rel.writer ops 0 t with
  | none => true
  | some w => (Rel.preds o).contains w
def fine2 (ops : List Oper) (n : Nat) (ord : List Nat) (k : Nat) : Bool :=
  let M := Rel.masks ops []
  Rel.ancOk ops M && (Nat.beq ord.length ops.length && Nat.ble k ord.length) &&
  ((List.range ops.length).all fun p => match ord[p]? with | some i => Nat.blt i ops.length && Nat.beq (posOf ord i) p | none => false) &&
  ((List.range ops.length).all fun i => Nat.blt (posOf ord i) ops.length && (match ord[posOf ord i]? with | some j => Nat.beq j i | none => false)) &&
  ((List.range ops.length).all fun i => match ops[i]? with
    | none => false
    | some o => (match o.dst with | none => true | some d => Nat.blt d n && Rel.writer ops 0 d == some i) &&
      ((o.looksAt ops.toArray).all fun t => match Rel.writer ops 0 t with | none => true | some j => (Rel.preds o).contains j || anc M j i) &&
      ((Rel.preds o).all fun p => Nat.blt (posOf ord p) (posOf ord i))) &&
  ((List.range ops.length).all fun i => !(opA ops isMem i) || Nat.blt (posOf ord i) k || (List.range ops.length).all fun j => !(opA ops isMem j) || !(Nat.blt (posOf ord j) (posOf ord i)) || (anc M i j || (Nat.blt (posOf ord j) k && (opA ops (newSt ops) i || opA ops (agn ops) j)))) &&
  ((List.range ops.length).all fun i => !(opA ops isAl i) || (Nat.ble k (posOf ord i) && match userOf ops ord i with
    | none => false
    | some u => anc M u i && (List.range ops.length).all fun j => match ops[j]? with
      | none => false
      | some o => !((Rel.preds o).contains i) || Nat.beq j u || anc M j u || !((o.looksAt ops.toArray).any fun t => Rel.writer ops 0 t == some i)))
/-- A plan: the first of the operations that look at memory, and what hangs on nothing else; then the others, each new block just ahead of its first user. (A hint: what it says is checked.) -/
def planAt (ps : List Nat) (ops : List Oper) (strict : Bool) : List Nat × Nat :=
  let M := Rel.masks ops []
  let idx := List.range ops.length
  let mems := idx.filter (opA ops isMem)
  let cut := fun (g : Nat → Nat → Bool) => ((List.range (mems.length + 1)).find? fun t => (List.range mems.length).all fun a => Nat.blt a t || (List.range a).all fun b => anc M (mems.getD a 0) (mems.getD b 0) || (Nat.blt b t && g (mems.getD a 0) (mems.getD b 0))).getD 0
  let t0 := cut fun a _ => opA ops (newSt ops) a
  let t := bif (mems.take t0).all (opA ops (mayFree ps)) then t0 else cut fun a b => opA ops (newSt ops) a || opA ops (agn ops) b
  let fixed := mems.filter fun i => !(opA ops (mayFree ps) i)
  let late := bif !strict || (mems.take t).all (opA ops (mayFree ps)) then mems.drop t else mems.filter fun i => fixed.any fun j => Nat.beq i j || anc M i j
  let isFree := fun i => bif opA ops isMem i then !(late.any (Nat.beq i)) else !(opA ops isAl i) && !(idx.any fun j => anc M i j && (late.any (Nat.beq j) || opA ops isAl j))
  let fr := idx.filter isFree
  let rest := idx.filter fun i => !(isFree i) && !(opA ops isAl i)
  let mk := fun (all : Bool) => rest.foldl (fun (acc : List Nat × List Nat) i => bif all || opA ops isMem i then (acc.1 ++ acc.2.filter (anc M i) ++ [i], acc.2.filter fun j => !(anc M i j)) else (acc.1 ++ [i], acc.2)) (fr, idx.filter (opA ops isAl))
  let o1 := (mk false).1 ++ (mk false).2
  let okO := idx.all fun i => match ops[i]? with | some o => (Rel.preds o).all fun p => Nat.blt (posOf o1 p) (posOf o1 i) | none => true
  (bif okO then o1 else (mk true).1 ++ (mk true).2, fr.length)
def planOf (ps : List Nat) (ops : List Oper) : List Nat × Nat :=
  let p := planAt ps ops true
  bif fine2 ops 1000000000 p.1 p.2 then p else planAt ps ops false
/-- What is looked at again behind the operation at a place: what may come up only then, and may see what has been written since. -/
def againAt (ops : List Oper) (ord : List Nat) (k p : Nat) : List Nat :=
  let M := Rel.masks ops []
  let idx := List.range ops.length
  let late := idx.filter fun i => opA ops isMem i && Nat.ble k (posOf ord i) && Nat.ble (posOf ord i) p
  bif late.any fun i => !(opA ops (newSt ops) i) then idx.filter fun j => opA ops isMem j && Nat.blt (posOf ord j) k && late.all fun u => !(anc M u j)
  else []
end Go.Proofs.YtijpomemobgddaaGreatDoor.Ev
namespace Go.Proofs.YtijpomemobgddaaGreatDoor.Ev
open Go Go.RowKit

structure Plan (ops : List Oper) (n : Nat) (ord : List Nat) (k : Nat) : Prop where
  ancs : Rel.ancOk ops (Rel.masks ops []) = true
  len : ord.length = ops.length
  kle : k ≤ ops.length
  at_ : ∀ p, p < ops.length → ∃ i, ord[p]? = some i ∧ i < ops.length ∧ posOf ord i = p
  pos : ∀ i, i < ops.length → posOf ord i < ops.length ∧ ord[posOf ord i]? = some i
  dst : ∀ (i : Nat) o d, ops[i]? = some o → o.dst = some d → d < n ∧ Rel.writer ops 0 d = some i
  looks : ∀ (i : Nat) o t j, ops[i]? = some o → t ∈ o.looksAt ops.toArray → Rel.writer ops 0 t = some j → j ∈ Rel.preds o ∨ anc (Rel.masks ops []) j i = true
  preds : ∀ (i : Nat) o p, ops[i]? = some o → p ∈ Rel.preds o → posOf ord p < posOf ord i
  mem : ∀ (i j : Nat) oi oj, ops[i]? = some oi → ops[j]? = some oj → isMem oi = true → isMem oj = true → k ≤ posOf ord i → posOf ord j < posOf ord i → anc (Rel.masks ops []) i j = true ∨ (posOf ord j < k ∧ (newSt ops oi = true ∨ agn ops oj = true))
  al : ∀ (i : Nat) o, ops[i]? = some o → isAl o = true → k ≤ posOf ord i ∧ ∃ u ou, ops[u]? = some ou ∧ isMem ou = true ∧ posOf ord i < posOf ord u ∧ anc (Rel.masks ops []) u i = true ∧
    (∀ (j : Nat) oj, ops[j]? = some oj → isMem oj = true → posOf ord i < posOf ord j → posOf ord u ≤ posOf ord j) ∧
    (∀ (j : Nat) oj t, ops[j]? = some oj → i ∈ Rel.preds oj → t ∈ oj.looksAt ops.toArray → Rel.writer ops 0 t = some i → j = u ∨ anc (Rel.masks ops []) j u = true)

theorem nbeq {a b : Nat} : Nat.beq a b = true ↔ a = b := ⟨Nat.eq_of_beq_eq_true, fun h => by subst h; exact Nat.beq_refl a⟩
theorem nble {a b : Nat} : Nat.ble a b = true ↔ a ≤ b := ⟨Nat.le_of_ble_eq_true, Nat.ble_eq_true_of_le⟩
theorem nblt {a b : Nat} : Nat.blt a b = true ↔ a < b := nble

theorem find_first {l : List Nat} {p : Nat → Bool} : ∀ {m : Nat} {u : Nat}, (l.drop m).find? p = some u → ∃ q, m ≤ q ∧ l[q]? = some u ∧ p u = true ∧ ∀ r, m ≤ r → r < q → ∀ v, l[r]? = some v → p v = false := by
  intro m u h
  obtain ⟨h1, as, bs, h2, h3⟩ := List.find?_eq_some_iff_append.1 h
  refine ⟨m + as.length, by omega, ?_, h1, fun r hr1 hr2 v hv => ?_⟩
  · have : (l.drop m)[as.length]? = some u := by rw [h2]; simp
    rwa [List.getElem?_drop] at this
  · have : (l.drop m)[r - m]? = some v := by rw [List.getElem?_drop, show m + (r - m) = r by omega]; exact hv
    rw [h2, List.getElem?_append_left (by omega)] at this
    simpa using h3 v (List.mem_of_getElem? this)

theorem plan_of {ops : List Oper} {n k : Nat} {ord : List Nat} (h : fine2 ops n ord k = true) : Plan ops n ord k := by
  unfold fine2 at h
  simp only [Bool.and_eq_true, nbeq, nble] at h
  obtain ⟨⟨⟨⟨⟨⟨h1, h2, h3⟩, h4⟩, h5⟩, h6⟩, h7⟩, h8⟩ := h
  have at_ : ∀ p, p < ops.length → ∃ i, ord[p]? = some i ∧ i < ops.length ∧ posOf ord i = p := by
    intro p hp
    have := List.all_eq_true.1 h4 p (List.mem_range.2 hp)
    cases ho : ord[p]? with
    | none => simp [ho] at this
    | some i =>
      simp only [ho, Bool.and_eq_true, nbeq, nblt] at this
      exact ⟨i, rfl, this⟩
  have pos : ∀ i, i < ops.length → posOf ord i < ops.length ∧ ord[posOf ord i]? = some i := by
    intro i hi
    have := List.all_eq_true.1 h5 i (List.mem_range.2 hi)
    simp only [Bool.and_eq_true, nblt] at this
    obtain ⟨k1, k2⟩ := this
    refine ⟨k1, ?_⟩
    cases ho : ord[posOf ord i]? with
    | none => simp [ho] at k2
    | some j =>
      simp only [ho, nbeq] at k2
      rw [k2]
  have each : ∀ (i : Nat) o, ops[i]? = some o → _ := fun i o ho => by
    have := List.all_eq_true.1 h6 i (List.mem_range.2 (Rel.lt_of_get ho))
    simp only [ho, Bool.and_eq_true] at this
    exact this
  refine ⟨h1, h2, h2 ▸ h3, at_, pos, fun i o d ho hd => ?_, fun i o t j ho ht hw => ?_, fun i o p ho hp => ?_, fun i j oi oj hi hj mi mj hk hlt => ?_, fun i o ho ha => ?_⟩
  · have := (each i o ho).1.1
    simp only [hd, Bool.and_eq_true, nblt, beq_iff_eq] at this
    exact this
  · have := List.all_eq_true.1 (each i o ho).1.2 t ht
    simp only [hw, Bool.or_eq_true] at this
    rcases this with h' | h'
    · left
      simpa using h'
    · exact .inr h'
  · have := List.all_eq_true.1 (each i o ho).2 p hp
    exact nblt.1 this
  · have := List.all_eq_true.1 h7 i (List.mem_range.2 (Rel.lt_of_get hi))
    simp only [opA, hi, mi, Bool.not_true, Bool.false_or, Bool.or_eq_true, nblt] at this
    rcases this with h' | h'
    · omega
    · have := List.all_eq_true.1 h' j (List.mem_range.2 (Rel.lt_of_get hj))
      simp only [hj, mj, Bool.not_true, Bool.false_or, Bool.or_eq_true, Bool.not_eq_true'] at this
      rcases this with h'' | h''
      · rw [nblt.2 hlt] at h''
        cases h''
      · simp only [Bool.or_eq_true, Bool.and_eq_true, nblt, opA, hi, hj] at h''
        exact h''
  · have := List.all_eq_true.1 h8 i (List.mem_range.2 (Rel.lt_of_get ho))
    simp only [opA, ho, ha, Bool.not_true, Bool.false_or, Bool.and_eq_true, nble] at this
    obtain ⟨hk, hu⟩ := this
    refine ⟨hk, ?_⟩
    cases hus : userOf ops ord i with
    | none => simp [hus] at hu
    | some u =>
      simp only [hus, Bool.and_eq_true] at hu
      obtain ⟨hanc, hall⟩ := hu
      obtain ⟨q, hq1, hq2, hq3, hq4⟩ := find_first hus
      have hql : q < ops.length := by
        rw [← h2]
        exact Rel.lt_of_get hq2
      obtain ⟨u', hu1, hu2, hu3⟩ := at_ q hql
      rw [hq2] at hu1
      obtain rfl := Option.some.inj hu1
      have hou : ops[u]? = some ops[u] := List.getElem?_eq_getElem hu2
      have hmu : isMem ops[u] = true := by simpa [opA, hou] using hq3
      refine ⟨u, ops[u], hou, hmu, by omega, hanc, fun j oj hj mj hlt => ?_, fun j oj t hj hp ht hw => ?_⟩
      · rcases Nat.lt_or_ge (posOf ord j) (posOf ord u) with h' | h'
        · exfalso
          obtain ⟨k1, k2⟩ := pos j (Rel.lt_of_get hj)
          have := hq4 (posOf ord j) (by omega) (by omega) j k2
          simp [opA, hj, mj] at this
        · exact h'
      · have := List.all_eq_true.1 hall j (List.mem_range.2 (Rel.lt_of_get hj))
        simp only [hj, Bool.or_eq_true, Bool.not_eq_true', nbeq] at this
        rcases this with ((h' | h') | h') | h'
        · rw [List.contains_iff_mem.2 hp] at h'
          cases h'
        · exact .inl h'
        · exact .inr h'
        · exfalso
          have := List.any_eq_false.1 h' t ht
          simp [hw] at this

theorem Plan.anc_pos {ops : List Oper} {n k : Nat} {ord : List Nat} (h : Plan ops n ord k) : ∀ (i j : Nat), i < ops.length → anc (Rel.masks ops []) i j = true → j < i ∧ posOf ord j < posOf ord i := by
  intro i
  induction i using Nat.strongRecOn with
  | ind i ih =>
    intro j hi hb
    have ho : ops[i]? = some ops[i] := List.getElem?_eq_getElem hi
    obtain ⟨h1, h2⟩ := Rel.ancOk_at h.ancs ho
    obtain ⟨hj, p, hp, hpj⟩ := h2 j hb
    refine ⟨hj, ?_⟩
    have hpp := h.preds i _ p ho hp
    rcases hpj with rfl | hpj
    · exact hpp
    · have := (ih p (h1 p hp) j (by have := h1 p hp; omega) hpj).2
      omega
end Go.Proofs.YtijpomemobgddaaGreatDoor.Ev
namespace Go.Proofs.YtijpomemobgddaaGreatDoor.Ev
open Go Go.RowKit
variable {P : Program} {T : Tb}

def stepA (T : Tb) (ov : Orc) (st : St) (m : MOp) : Option (A × Heap) :=
  match wants st.env m.guard with
  | none => none
  | some false => some (.v undef, st.H)
  | some true => anyOp T ov st m.op
structure Trace (T : Tb) (q : OrcQ) (ov : Orc) (k : Nat) (ms : List MOp) (st : St) (xs : List A) (Hs : Nat → Heap) : Prop where
  len : xs.length = ms.length
  low : ∀ p, p ≤ k → Hs p = st.H
  free : ∀ (p : Nat) m, p < k → ms[p]? = some m → ∃ x, xs[p]? = some x ∧ stepF T q ⟨puts st.env (ms.take p) (xs.take p), st.H⟩ m = some x
  tail : ∀ (p : Nat) m, k ≤ p → ms[p]? = some m → ∃ x, xs[p]? = some x ∧ stepA T ov ⟨puts st.env (ms.take p) (xs.take p), Hs p⟩ m = some (x, Hs (p + 1))

theorem tail_split {q : OrcQ} {ov : Orc} : ∀ (ms : List MOp) (st st' : St), runOps T q ov 0 ms st = some st' →
    ∃ (xs : List A) (Hs : Nat → Heap), xs.length = ms.length ∧ Hs 0 = st.H ∧ st' = ⟨puts st.env ms xs, Hs ms.length⟩ ∧ ∀ (p : Nat) m, ms[p]? = some m → ∃ x, xs[p]? = some x ∧ stepA T ov ⟨puts st.env (ms.take p) (xs.take p), Hs p⟩ m = some (x, Hs (p + 1))
  | [], st, st', h => by
    simp [runOps] at h
    subst h
    exact ⟨[], fun _ => st.H, rfl, rfl, rfl, fun p m h => by simp at h⟩
  | m :: ms, st, st', h => by
    have hstep : ∃ x H', stepA T ov st m = some (x, H') ∧ runOps T q ov 0 ms ⟨put st.env m.dst x, H'⟩ = some st' := by
      unfold runOps at h
      unfold stepA
      cases hw : wants st.env m.guard with
      | none => simp [hw] at h
      | some b =>
        cases b with
        | false =>
          simp only [hw] at h
          exact ⟨_, _, rfl, h⟩
        | true =>
          simp only [hw] at h
          cases hf : anyOp T ov st m.op with
          | none => simp [hf] at h
          | some x =>
            obtain ⟨x, H'⟩ := x
            simp only [hf] at h
            exact ⟨x, H', rfl, h⟩
    obtain ⟨x, H', h1, h2⟩ := hstep
    obtain ⟨xs, Hs, h3, h4, h5, h6⟩ := tail_split ms _ st' h2
    refine ⟨x :: xs, fun p => match p with | 0 => st.H | p + 1 => Hs p, by simp [h3], rfl, by simpa [puts] using h5, fun p m' hm => ?_⟩
    cases p with
    | zero =>
      simp at hm
      subst hm
      refine ⟨x, rfl, ?_⟩
      simp only [List.take_zero, puts]
      rw [h1, h4]
    | succ p =>
      obtain ⟨z, h7, h8⟩ := h6 p m' (by simpa using hm)
      exact ⟨z, by simpa using h7, by simpa [puts] using h8⟩
theorem puts_append : ∀ (ms ms' : List MOp) (xs ys : List A) (e : Env), xs.length = ms.length → puts e (ms ++ ms') (xs ++ ys) = puts (puts e ms xs) ms' ys
  | [], ms', [], ys, e, _ => rfl
  | [], _, _ :: _, _, _, h => by simp at h
  | _ :: _, _, [], _, _, h => by simp at h
  | m :: ms, ms', x :: xs, ys, e, h => by
    simp only [List.cons_append, puts]
    exact puts_append ms ms' xs ys _ (by simpa using h)
theorem trace_join {q : OrcQ} {ov : Orc} {k : Nat} {ms : List MOp} {st : St} {x1 x2 : List A} {Hs : Nat → Heap} (hk : k ≤ ms.length) (h1 : x1.length = k)
    (h3 : ∀ (i : Nat) m, i < k → ms[i]? = some m → ∃ x, x1[i]? = some x ∧ stepF T q ⟨puts st.env (ms.take i) (x1.take i), st.H⟩ m = some x)
    (h4 : x2.length = (ms.drop k).length) (h5 : Hs 0 = st.H)
    (h7 : ∀ (p : Nat) m, (ms.drop k)[p]? = some m → ∃ x, x2[p]? = some x ∧ stepA T ov ⟨puts (puts st.env (ms.take k) x1) ((ms.drop k).take p) (x2.take p), Hs p⟩ m = some (x, Hs (p + 1))) :
    Trace T q ov k ms st (x1 ++ x2) (fun p => if p ≤ k then st.H else Hs (p - k)) ∧
    (∀ p, k ≤ p → puts st.env (ms.take p) ((x1 ++ x2).take p) = puts (puts st.env (ms.take k) x1) ((ms.drop k).take (p - k)) (x2.take (p - k))) ∧
    (⟨puts (puts st.env (ms.take k) x1) (ms.drop k) x2, Hs (ms.drop k).length⟩ : St) = ⟨puts st.env ms (x1 ++ x2), if ms.length ≤ k then st.H else Hs (ms.length - k)⟩ := by
  have hl : x1.length = (ms.take k).length := by rw [h1, List.length_take]; omega
  have hl2 : x2.length = ms.length - k := by rw [h4, List.length_drop]
  have tk : ∀ p, k ≤ p → ms.take p = ms.take k ++ (ms.drop k).take (p - k) := fun p hp => by
    have : p = k + (p - k) := by omega
    rw [this, List.take_add]
    simp
  have tx : ∀ p, k ≤ p → (x1 ++ x2).take p = x1 ++ x2.take (p - k) := fun p hp => by
    rw [List.take_append, h1, List.take_of_length_le (by omega)]
  have tp : ∀ p, k ≤ p → puts st.env (ms.take p) ((x1 ++ x2).take p) = puts (puts st.env (ms.take k) x1) ((ms.drop k).take (p - k)) (x2.take (p - k)) := fun p hp => by
    rw [tk p hp, tx p hp, puts_append _ _ _ _ _ hl]
  refine ⟨⟨by simp; omega, fun p hp => if_pos hp, fun p m hp hm => ?_, fun p m hp hm => ?_⟩, tp, ?_⟩
  · obtain ⟨x, k1, k2⟩ := h3 p m hp hm
    refine ⟨x, by rw [List.getElem?_append_left (by omega)]; exact k1, ?_⟩
    rw [List.take_append_of_le_length (by omega)]
    exact k2
  · obtain ⟨x, k1, k2⟩ := h7 (p - k) m (by rw [List.getElem?_drop, show k + (p - k) = p by omega]; exact hm)
    refine ⟨x, by rw [List.getElem?_append_right (by omega), h1]; exact k1, ?_⟩
    rw [tp p hp]
    have e1 : (if p ≤ k then st.H else Hs (p - k)) = Hs (p - k) := by
      split
      · have : p - k = 0 := by omega
        rw [this, h5]
      · rfl
    have e2 : (if p + 1 ≤ k then st.H else Hs (p + 1 - k)) = Hs (p - k + 1) := by
      rw [if_neg (by omega), show p + 1 - k = p - k + 1 by omega]
    rw [e1, e2]
    exact k2
  · congr 1
    · have e := puts_append (ms.take k) (ms.drop k) x1 x2 st.env hl
      rw [List.take_append_drop] at e
      exact e.symm
    · simp only [List.length_drop]
      split
      · have : ms.length - k = 0 := by omega
        rw [this, h5]
      · rfl
theorem trace_of {q : OrcQ} {ov : Orc} {k : Nat} {ms : List MOp} {st st' : St} (hk : k ≤ ms.length) (h : runOps T q ov k ms st = some st') :
    ∃ (xs : List A) (Hs : Nat → Heap), Trace T q ov k ms st xs Hs ∧ st' = ⟨puts st.env ms xs, Hs ms.length⟩ := by
  obtain ⟨x1, h1, h2, h3⟩ := free_split ms k st st' hk h
  obtain ⟨x2, Hs, h4, h5, h6, h7⟩ := tail_split _ _ _ h2
  obtain ⟨k1, -, k3⟩ := trace_join hk h1 h3 h4 h5 h7
  exact ⟨_, _, k1, by rw [h6]; exact k3⟩

/-- The later operations of a region, each followed by a look at some earlier ones. -/
def lateM (A : Nat → List MOp) : Nat → List MOp → M
  | _, [] => .skip
  | p, m :: ms => .seq (.ops [m]) (.seq (.again (A p)) (lateM A (p + 1) ms))
theorem late_split {q : OrcQ} {ov : Orc} {B : Nat → List MOp} : ∀ (ms : List MOp) (N p : Nat) (st : St) (ex : Ex) (st' : St), runM T q ov N (lateM B p ms) st = some (ex, st') →
    ex = .go ∧ ∃ (xs : List A) (Hs : Nat → Heap), xs.length = ms.length ∧ Hs 0 = st.H ∧ st' = ⟨puts st.env ms xs, Hs ms.length⟩ ∧ (∀ (i : Nat) m, ms[i]? = some m → ∃ x, xs[i]? = some x ∧ stepA T ov ⟨puts st.env (ms.take i) (xs.take i), Hs i⟩ m = some (x, Hs (i + 1))) ∧
      ∀ i, i < ms.length → againAll T ⟨puts st.env (ms.take (i + 1)) (xs.take (i + 1)), Hs (i + 1)⟩ (B (p + i)) = true
  | [], N, p, st, ex, st', h => by
    cases N with
    | zero => simp [runM] at h
    | succ N =>
      simp only [lateM, runM, Option.some.injEq, Prod.mk.injEq] at h
      obtain ⟨rfl, rfl⟩ := h
      exact ⟨rfl, [], fun _ => st.H, rfl, rfl, rfl, fun i m h => by simp at h, fun i h => by simp at h⟩
  | m :: ms, N, p, st, ex, st', h => by
    cases N with
    | zero => simp [runM] at h
    | succ N =>
      simp only [lateM, runM] at h
      cases N with
      | zero => simp [runM] at h
      | succ N =>
        cases h1 : runOps T q ov 0 [m] st with
        | none => simp [runM, h1] at h
        | some s1 =>
          simp only [runM, h1] at h
          obtain ⟨xs1, Hs1, j1, j2, j3, j4⟩ := tail_split [m] st s1 h1
          cases N with
          | zero => simp [runM] at h
          | succ N =>
            cases h2 : againAll T s1 (B p) with
            | false => simp [runM, h2] at h
            | true =>
              simp only [runM, h2, cond_true] at h
              obtain ⟨k1, xs, Hs, k2, k3, k4, k5, k6⟩ := late_split ms (N + 1) (p + 1) s1 ex st' h
              obtain ⟨x, j5, j6⟩ := j4 0 m rfl
              have hx : xs1 = [x] := by
                match xs1, j1, j5 with
                | [y], _, j5 => simpa using j5
              subst hx
              simp only [List.take_zero, puts, j2] at j6
              simp only [puts, List.length_cons, List.length_nil] at j3
              subst j3
              refine ⟨k1, x :: xs, fun i => match i with | 0 => st.H | i + 1 => Hs i, by simp [k2], rfl, by simpa [puts] using k4, fun i m' hm => ?_, fun i hi => ?_⟩
              · cases i with
                | zero =>
                  simp only [List.getElem?_cons_zero, Option.some.injEq] at hm
                  subst hm
                  refine ⟨x, rfl, ?_⟩
                  simp only [List.take_zero, puts]
                  rw [j6, k3]
                | succ i =>
                  obtain ⟨z, h7, h8⟩ := k5 i m' (by simpa using hm)
                  exact ⟨z, by simpa using h7, by simpa [puts] using h8⟩
              · cases i with
                | zero =>
                  simp only [List.take_succ_cons, List.take_zero, puts, Nat.add_zero]
                  rw [k3]
                  exact h2
                | succ i =>
                  have := k6 i (by simpa using hi)
                  simp only [List.take_succ_cons, puts]
                  rw [show p + (i + 1) = p + 1 + i by omega]
                  exact this
theorem trace_late {q : OrcQ} {ov : Orc} {B : Nat → List MOp} {N k : Nat} {ms : List MOp} {st s1 st' : St} {ex : Ex} (hk : k ≤ ms.length) (h : runOps T q ov k (ms.take k) st = some s1) (h' : runM T q ov N (lateM B k (ms.drop k)) s1 = some (ex, st')) :
    ex = .go ∧ ∃ (xs : List A) (Hs : Nat → Heap), Trace T q ov k ms st xs Hs ∧ st' = ⟨puts st.env ms xs, Hs ms.length⟩ ∧ ∀ p, k ≤ p → p < ms.length → againAll T ⟨puts st.env (ms.take (p + 1)) (xs.take (p + 1)), Hs (p + 1)⟩ (B p) = true := by
  obtain ⟨x1, h1, h2, h3⟩ := free_split (ms.take k) k st s1 (by rw [List.length_take]; omega) h
  have hdk : (ms.take k).drop k = [] := List.drop_eq_nil_of_le (by rw [List.length_take]; omega)
  rw [hdk] at h2
  simp only [runOps, Option.some.injEq] at h2
  rw [List.take_take, Nat.min_self] at h2
  subst h2
  obtain ⟨k0, x2, Hs, h4, h5, h6, h7, h8⟩ := late_split _ _ _ _ _ _ h'
  have h3' : ∀ (i : Nat) m, i < k → ms[i]? = some m → ∃ x, x1[i]? = some x ∧ stepF T q ⟨puts st.env (ms.take i) (x1.take i), st.H⟩ m = some x := fun i m hi hm => by
    have := h3 i m hi (by rw [List.getElem?_take, if_pos hi]; exact hm)
    rw [List.take_take, show min i k = i by omega] at this
    exact this
  obtain ⟨k1, k2, k3⟩ := trace_join hk h1 h3' h4 h5 h7
  refine ⟨k0, _, _, k1, by rw [h6]; exact k3, fun p hp hpl => ?_⟩
  rw [k2 (p + 1) (by omega)]
  have := h8 (p - k) (by rw [List.length_drop]; omega)
  rw [if_neg (by omega), show p + 1 - k = p - k + 1 by omega]
  rw [show k + (p - k) = p by omega] at this
  exact this

def cmpOrd (n : Nat) (ops : List Oper) : List Nat → Option (List MOp)
  | [] => some []
  | i :: l => match ops[i]? with
    | none => none
    | some o => match cmpOp n ops o, cmpOrd n ops l with
      | some m, some ms => some (m :: ms)
      | _, _ => none
theorem cmpOrd_get {n : Nat} {ops : List Oper} : ∀ {l : List Nat} {ms : List MOp}, cmpOrd n ops l = some ms → ms.length = l.length ∧ ∀ (p i : Nat), l[p]? = some i → ∃ o m, ops[i]? = some o ∧ ms[p]? = some m ∧ CmpOk n ops o m
  | [], ms, h => by
    simp [cmpOrd] at h
    subst h
    exact ⟨rfl, fun i o h => by simp at h⟩
  | i :: l, ms, h => by
    unfold cmpOrd at h
    cases h0 : ops[i]? with
    | none => simp [h0] at h
    | some o =>
      cases h1 : cmpOp n ops o with
      | none => simp [h0, h1] at h
      | some m =>
        cases h2 : cmpOrd n ops l with
        | none => simp [h0, h1, h2] at h
        | some ms' =>
          simp only [h0, h1, h2, Option.some.injEq] at h
          subst h
          obtain ⟨h3, h4⟩ := cmpOrd_get h2
          refine ⟨by simp [h3], fun p i' hp => ?_⟩
          cases p with
          | zero =>
            simp at hp
            subst hp
            exact ⟨o, m, h0, rfl, cmpOp_ok h1⟩
          | succ p => simpa using h4 p i' (by simpa using hp)

section
variable {ops : List Oper} {n k : Nat} {ord : List Nat} {ms : List MOp} {xs : List A} {e : Env}
theorem Plan.inj (h : Plan ops n ord k) {i j : Nat} (hi : i < ops.length) (hj : j < ops.length) (he : posOf ord i = posOf ord j) : i = j := by
  have h1 := (h.pos i hi).2
  have h2 := (h.pos j hj).2
  rw [he] at h1
  exact Option.some.inj (h1.symm.trans h2)
/-- What the canonical order has in a slot ahead of a position. -/
theorem canon_some (h : Plan ops n ord k) (hc : cmpOrd n ops ord = some ms) {t w p : Nat} {x : A} (hw : Rel.writer ops 0 t = some w) (hp : posOf ord w < p) (hx : xs[posOf ord w]? = some x) : look (puts e (ms.take p) (xs.take p)) t = some x := by
  obtain ⟨hml, hmg⟩ := cmpOrd_get hc
  obtain ⟨-, o, ho, hd⟩ := Rel.writer_some hw
  have ho' : ops[w]? = some o := by simpa using ho
  have hwl := Rel.lt_of_get ho'
  obtain ⟨o1, m, ho1, hm, hcm⟩ := hmg _ _ (h.pos w hwl).2
  obtain rfl := Option.some.inj (ho'.symm.trans ho1)
  refine look_puts_at _ _ e (posOf ord w) m x (by rw [List.getElem?_take_of_lt hp]; exact hm) (by rw [List.getElem?_take_of_lt hp]; exact hx) (by rw [hcm.dst]; exact hd) fun i' m' hi' hd' => ?_
  have hlt : i' < p := by
    have := (List.getElem?_eq_some_iff.1 hi').1
    simp at this
    omega
  rw [List.getElem?_take_of_lt hlt] at hi'
  have hil : i' < ops.length := by
    have := Rel.lt_of_get hi'
    rw [hml, h.len] at this
    exact this
  obtain ⟨j, hj1, hj2, hj3⟩ := h.at_ i' hil
  obtain ⟨o2, m2, ho2, hm2, hcm2⟩ := hmg _ _ hj1
  obtain rfl := Option.some.inj (hi'.symm.trans hm2)
  rw [hcm2.dst] at hd'
  have := (h.dst j o2 t ho2 hd').2
  rw [hw] at this
  obtain rfl := Option.some.inj this
  exact hj3.symm
theorem canon_none (h : Plan ops n ord k) (hc : cmpOrd n ops ord = some ms) {t p : Nat} (hw : ∀ w, Rel.writer ops 0 t = some w → p ≤ posOf ord w) : look (puts e (ms.take p) (xs.take p)) t = look e t := by
  obtain ⟨hml, hmg⟩ := cmpOrd_get hc
  refine look_puts_not _ _ e fun m' hm' hd' => ?_
  obtain ⟨i', hi'⟩ := List.mem_iff_getElem?.1 hm'
  have hlt : i' < p := by
    have := (List.getElem?_eq_some_iff.1 hi').1
    simp at this
    omega
  rw [List.getElem?_take_of_lt hlt] at hi'
  have hil : i' < ops.length := by
    have := Rel.lt_of_get hi'
    rw [hml, h.len] at this
    exact this
  obtain ⟨j, hj1, hj2, hj3⟩ := h.at_ i' hil
  obtain ⟨o2, m2, ho2, hm2, hcm2⟩ := hmg _ _ hj1
  obtain rfl := Option.some.inj (hi'.symm.trans hm2)
  rw [hcm2.dst] at hd'
  have := hw j (h.dst j o2 t ho2 hd').2
  omega
end
end Go.Proofs.YtijpomemobgddaaGreatDoor.Ev
