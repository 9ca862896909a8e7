/- Drawn regions in general: operations that hang on their operands alone, and new blocks, come up early or late; all others in the canonical order. -/
import Derived.Test.YtkpolehpdgnliaaE17
set_option linter.unusedSimpArgs false
set_option linter.unusedVariables false
namespace Go.Proofs.Ytkpolehpdgnliaa.Ev
open Go Go.RowKit
variable {P : Program} {T : Tb}

/-- Operations whose value hangs on their operands' values alone. -/
def pureOp : Op → Bool
  | .move _ | .assign _ | .pick _ _ _ | .binOp _ _ _ _ _ | .unOp _ _ _ | .extract _ _ | .fieldAddr _ _ _ | .indexAddr _ _ _ | .convert _ _ _ => true
  | _ => false
theorem pure_heap {e : Env} {op : Op} (h : pureOp op = true) (H H' : Heap) : quietOp T e H op = quietOp T e H' op := by
  cases op <;> first | rfl | (simp [pureOp] at h; done)
theorem pure_calls {e : Env} {op : Op} (h : pureOp op = true) : calls e op = none := by
  cases op <;> first | rfl | (simp [pureOp] at h; done)
theorem pure_loud {e : Env} {H : Heap} {op : Op} (h : pureOp op = true) : loudOp T e H op = none := by
  cases op <;> first | rfl | (simp [pureOp] at h; done)
theorem pure_free {q : OrcQ} {st : St} {op : Op} (h : pureOp op = true) : freeOp T q st op = quietOp T st.env st.H op := by
  cases op <;> first | rfl | (simp [pureOp] at h; done)
theorem pure_any {ov : Orc} {st : St} {op : Op} (h : pureOp op = true) : anyOp T ov st op = (quietOp T st.env st.H op).map fun a => (a, st.H) := by
  unfold anyOp
  rw [pure_calls h, pure_loud h]

theorem loud_congr {e e' : Env} {H : Heap} {op : Op} (h : Agree op.operands.toList e e') : loudOp T e H op = loudOp T e' H op := by
  cases op with
  | box t x => simp only [loudOp]; rw [h x (by simp [Op.operands])]
  | buildSlice t n ps => simp only [loudOp]; rw [lit_congr h]
  | store t x y => simp only [loudOp]; rw [h x (by simp [Op.operands]), h y (by simp [Op.operands])]
  | makeSlice t x y => simp only [loudOp]; rw [h x (by simp [Op.operands]), h y (by simp [Op.operands])]
  | call cl =>
    simp only [loudOp]
    rw [Agree.opnds (l := cl.args.toList) (fun y hy => h y (by simp [Op.operands, Call.operands]; simp at hy; simp [hy]))]
  | insert t m k v =>
    simp only [loudOp, putMap]
    rw [h m (by simp [Op.operands]), h k (by simp [Op.operands]), h v (by simp [Op.operands])]
  | mapUpdate t m k v =>
    simp only [loudOp, putMap]
    rw [h m (by simp [Op.operands]), h k (by simp [Op.operands]), h v (by simp [Op.operands])]
  | makeMap t r => cases r <;> simp only [loudOp]
  | _ => rfl
theorem any_congr {ov : Orc} {e e' : Env} {H : Heap} {op : Op} (h : Agree op.operands.toList e e') : anyOp T ov ⟨e, H⟩ op = anyOp T ov ⟨e', H⟩ op := by
  unfold anyOp
  simp only
  rw [calls_congr h, loud_congr h, quiet_congr h]

/-! ### The plan of a region -/
def isAl (o : Oper) : Bool := match o.op, o.guard, o.dst with | .alloc _, none, some _ => true | _, _, _ => false
def isMem (o : Oper) : Bool := !pureOp o.op && !isAl o
def posOf (ord : List Nat) (i : Nat) : Nat := ord.findIdx (fun j => Nat.beq j i)
def opA (ops : List Oper) (p : Oper → Bool) (i : Nat) : Bool := match ops[i]? with | some o => p o | none => false
def anc (M : List Nat) (i j : Nat) : Bool := (M.getD i 0).testBit j
def userOf (ops : List Oper) (ord : List Nat) (i : Nat) : Option Nat := (ord.drop (posOf ord i + 1)).find? (opA ops isMem)
/-- A store into a block that this region makes. -/
def newSt (ops : List Oper) (o : Oper) : Bool := match o.op with
  | .store _ (.tmp x) _ => match Rel.writer ops 0 x with
    | some j => opA ops isAl j && (Rel.preds o).contains j
    | none => false
  | _ => false
def fine2 (ops : List Oper) (n : Nat) (ord : List Nat) (k : Nat) : Bool :=
  let M := Rel.masks ops []
  Rel.ancOk ops M && (Nat.beq ord.length ops.length && Nat.ble k ord.length) &&
  ((List.range ops.length).all fun p => match ord[p]? with | some i => Nat.blt i ops.length && Nat.beq (posOf ord i) p | none => false) &&
  ((List.range ops.length).all fun i => Nat.blt (posOf ord i) ops.length && (match ord[posOf ord i]? with | some j => Nat.beq j i | none => false)) &&
  ((List.range ops.length).all fun i => match ops[i]? with
    | none => false
    | some o => (match o.dst with | none => true | some d => Nat.blt d n && Rel.writer ops 0 d == some i) &&
      ((o.looksAt ops.toArray).all fun t => match Rel.writer ops 0 t with | none => true | some j => (Rel.preds o).contains j || anc M j i) &&
      ((Rel.preds o).all fun p => Nat.blt (posOf ord p) (posOf ord i))) &&
  ((List.range ops.length).all fun i => !(opA ops isMem i) || Nat.blt (posOf ord i) k || (List.range ops.length).all fun j => !(opA ops isMem j) || !(Nat.blt (posOf ord j) (posOf ord i)) || (anc M i j || (Nat.blt (posOf ord j) k && opA ops (newSt ops) i))) &&
  ((List.range ops.length).all fun i => !(opA ops isAl i) || (Nat.ble k (posOf ord i) && match userOf ops ord i with
    | none => false
    | some u => anc M u i && (List.range ops.length).all fun j => match ops[j]? with
      | none => false
      | some o => !((Rel.preds o).contains i) || Nat.beq j u || anc M j u || !((o.looksAt ops.toArray).any fun t => Rel.writer ops 0 t == some i)))
/-- A plan: the first of the operations that look at memory, and what hangs on nothing else; then the others, each new block just ahead of its first user. (A hint: what it says is checked.) -/
def planOf (ops : List Oper) : List Nat × Nat :=
  let M := Rel.masks ops []
  let idx := List.range ops.length
  let mems := idx.filter (opA ops isMem)
  let t := ((List.range (mems.length + 1)).find? fun t => (List.range mems.length).all fun a => Nat.blt a t || (List.range a).all fun b => anc M (mems.getD a 0) (mems.getD b 0) || (Nat.blt b t && opA ops (newSt ops) (mems.getD a 0))).getD 0
  let late := mems.drop t
  let isFree := fun i => bif opA ops isMem i then !(late.any (Nat.beq i)) else !(opA ops isAl i) && !(idx.any fun j => anc M i j && (late.any (Nat.beq j) || opA ops isAl j))
  let fr := idx.filter isFree
  let rest := idx.filter fun i => !(isFree i) && !(opA ops isAl i)
  let mk := fun (all : Bool) => rest.foldl (fun (acc : List Nat × List Nat) i => bif all || opA ops isMem i then (acc.1 ++ acc.2.filter (anc M i) ++ [i], acc.2.filter fun j => !(anc M i j)) else (acc.1 ++ [i], acc.2)) (fr, idx.filter (opA ops isAl))
  let o1 := (mk false).1 ++ (mk false).2
  let okO := idx.all fun i => match ops[i]? with | some o => (Rel.preds o).all fun p => Nat.blt (posOf o1 p) (posOf o1 i) | none => true
  (bif okO then o1 else (mk true).1 ++ (mk true).2, fr.length)
end Go.Proofs.Ytkpolehpdgnliaa.Ev
