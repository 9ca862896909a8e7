/- The evaluator again, its arms one by one, so that the kernel unfolds little at a step; it is the first form. Printed by genfast.py. -/
import Derived.Test.YtijpomemobgddaaGreatDoorE22
set_option linter.unusedSimpArgs false
set_option linter.unusedVariables false
namespace Go.Proofs.YtijpomemobgddaaGreatDoor.Ev
open Go Go.RowKit

noncomputable def lookF (e : Env) (t : Nat) : Option A := List.rec none (fun p _ ih => bif Nat.beq p.1 t then some p.2 else ih) e
theorem lookF_eq (e : Env) (t : Nat) : lookF e t = look e t := by
  induction e with
  | nil => rfl
  | cons p l ih =>
    show (bif Nat.beq p.1 t then some p.2 else lookF l t) = _
    rw [ih]
    rfl
noncomputable def opndF (e : Env) : Operand → Option A
  | .tmp t => lookF e t
  | .const x => some (ofV x)
  | .func f => some (.v (.func (.func f) #[] #[]))
  | .global g => some (.v (.pointer (some ⟨g, 0, none⟩)))
theorem opndF_eq (e : Env) (x : Operand) : opndF e x = opnd e x := by cases x <;> simp only [opndF, opnd, lookF_eq]
noncomputable def opndsF (e : Env) : List Operand → Option (List A)
  | [] => some []
  | x :: l => match opndF e x, opndsF e l with
    | some a, some as => some (a :: as)
    | _, _ => none
theorem opndsF_eq (e : Env) : ∀ l : List Operand, opndsF e l = opnds e l
  | [] => rfl
  | x :: l => by
    simp only [opndsF, opnds, opndF_eq, opndsF_eq e l]
    all_goals rfl
def sameK (k k' : IntKind) (x : Value) : Option Value := if k = k' then some x else none
def binI (op : BinOp) (k k' : IntKind) (a b : Int) : Option Value := match op with
  | .shl => if b < 0 then none else some (.int k (k.wrap (a * 2 ^ (min b.toNat k.bits))))
  | .shr => if b < 0 then none else some (.int k (a.fdiv (2 ^ (min b.toNat k.bits))))
  | .add => sameK k k' (.int k (k.wrap (a + b)))
  | .sub => sameK k k' (.int k (k.wrap (a - b)))
  | .mul => sameK k k' (.int k (k.wrap (a * b)))
  | .eql => sameK k k' (.bool (a == b))
  | .neq => sameK k k' (.bool (a != b))
  | .lss => sameK k k' (.bool (a < b))
  | .leq => sameK k k' (.bool (a ≤ b))
  | .gtr => sameK k k' (.bool (a > b))
  | .geq => sameK k k' (.bool (a ≥ b))
  | op => binV op (.int k a) (.int k' b)
theorem binI_eq (op : BinOp) (k k' : IntKind) (a b : Int) : binI op k k' a b = binV op (.int k a) (.int k' b) := by cases op <;> rfl
def binF (op : BinOp) (x y : Value) : Option Value := match x with
  | .int k a => match y with
    | .int k' b => binI op k k' a b
    | y => binV op (.int k a) y
  | x => binV op x y
theorem binF_eq (op : BinOp) (x y : Value) : binF op x y = binV op x y := by
  unfold binF
  split
  · split
    · exact binI_eq ..
    · rfl
  · rfl
/-- A part of a string. -/
def subB (s : ByteArray) (i j : Nat) : ByteArray := ⟨⟨bif Nat.beq j s.size then s.data.toList.drop i else (s.data.toList.drop i).take (j - i)⟩⟩
theorem subB_eq (s : ByteArray) (i j : Nat) : subB s i j = s.extract i j := by
  have hs : s.size = s.data.toList.length := by rfl
  have h2 : (s.extract i j).data.toList = (s.data.toList.drop i).take (j - i) := by
    rw [ByteArray.data_extract, Array.toList_extract]
  have h1 : (subB s i j).data.toList = (s.data.toList.drop i).take (j - i) := by
    unfold subB
    cases hb : Nat.beq j s.size with
    | false => rfl
    | true =>
      have := Nat.eq_of_beq_eq_true hb
      simp only [cond_true]
      rw [List.take_of_length_le]
      rw [List.length_drop]
      omega
  have h3 : (subB s i j).data = (s.extract i j).data := Array.ext' (h1.trans h2.symm)
  exact ByteArray.ext h3
noncomputable def readF (G : Nat → Option (List Value)) (e : Env) (H : Heap) (x : Operand) : Option (List A) := match opndF e x with
  | some a => readL G H a
  | none => none

noncomputable def qf_move (T : Tb) (e : Env) (H : Heap) (x : Operand) : Option A :=
  opndF e x
noncomputable def qf_assign (T : Tb) (e : Env) (H : Heap) (x : Operand) : Option A :=
  opndF e x
noncomputable def qf_pick (T : Tb) (e : Env) (H : Heap) (c : Operand) (a : Operand) (b : Operand) : Option A :=
  match opndF e c, opndF e a, opndF e b with
    | some (.v (.bool t)), some x, some y => some (bif t then x else y)
    | some (.v (.bool true)), some x, none => some x
    | some (.v (.bool false)), none, some y => some y
    | _, _, _ => none
noncomputable def qf_load (T : Tb) (e : Env) (H : Heap) (t : TypeId) (x : Operand) : Option A :=
  match (opndF e x).bind (readL T.gl.tab H), T t with
    | some cs, some ty => partA ty cs 0
    | _, _ => none
noncomputable def qf_nilCheck (T : Tb) (e : Env) (H : Heap) (x : Operand) : Option A :=
  match opndF e x with
    | some (.ptr b o) => some (.ptr b o)
    | some (.fp cs) => some (.fp cs)
    | some (.v (.pointer (some a))) => some (.v (.pointer (some a)))
    | some (.clo f a b) => some (.clo f a b)
    | some (.v (.func (.func f) a b)) => some (.v (.func (.func f) a b))
    | _ => none
noncomputable def qf_binOp (T : Tb) (e : Env) (H : Heap) (op : BinOp) (t : TypeId) (x : Operand) (y : Operand) (z4 : TypeId) : Option A :=
  match opndF e x, opndF e y with
    | some (.v a), some (.v b) => match binF op a b with
      | some r => some (.v r)
      | none => eqOp T op t (.v a) (.v b)
    | some a, some b => eqOp T op t a b
    | _, _ => none
noncomputable def qf_unOp (T : Tb) (e : Env) (H : Heap) (op : UnOp) (z1 : TypeId) (x : Operand) : Option A :=
  match op, opndF e x with
    | .neg, some (.v (.int k n)) => some (.v (.int k (k.wrap (0 - n))))
    | .xor, some (.v (.int k n)) => some (.v (.int k (k.wrap (BitVec.ofInt k.bits (if k.signed then -1 else k.max) ^^^ BitVec.ofInt k.bits n).toNat)))
    | .not, some (.v (.bool b)) => some (.v (.bool !b))
    | _, _ => none
noncomputable def qf_convert (T : Tb) (e : Env) (H : Heap) (src : TypeId) (dst : TypeId) (x : Operand) : Option A :=
  match T src, T dst, opndF e x with
    | some _, some ty, some (.v (.int _ n)) => match ty.k with
      | .int k => some (.v (.int k (k.wrap n)))
      | _ => none
    | some _, some ty, some (.v (.string s)) => match ty.k with
      | .str => some (.v (.string s))
      | _ => none
    | some sty, some ty, some (.ref b off len sz) => bif Nat.beq dst 9 then convB T H sty.k ty.k b off len sz else none
    | _, _, _ => none
noncomputable def qf_build (T : Tb) (e : Env) (H : Heap) (t : TypeId) (parts : Array (Nat × Operand)) : Option A :=
  match T t, partsA e parts.toList with
    | some ty, some ps =>
      match ty.k with
      | .struct fs => match placesOf T fs with
        | some l => (fillA (fun i => l[i]?) (ty.zero.map .v) ps).map .agg
        | none => none
      | .array _ el => match T el with
        | some te => (fillA (fun i => some (i * te.size, te.size)) (ty.zero.map .v) ps).map .agg
        | none => none
      | _ => none
    | _, _ => none
noncomputable def qf_fieldAddr (T : Tb) (e : Env) (H : Heap) (t : TypeId) (x : Operand) (f : Nat) : Option A :=
  match T t, opndF e x with
    | some ty, some a => match ty.k with
      | .struct fs => match fs[f]? with
        | some (ft, off, _) => match T ft with
          | some fty => if 0 < fty.size then
              match a with
              | .ptr b o => some (.ptr b (o + off))
              | .fp cs => some (.fp (cs.drop off))
              | _ => none
            else none
          | none => none
        | none => none
      | _ => none
    | _, _ => none
noncomputable def qf_field (T : Tb) (e : Env) (H : Heap) (t : TypeId) (x : Operand) (f : Nat) : Option A :=
  match T t, opndF e x with
    | some ty, some (.agg cs) => match ty.k with
      | .struct fs => match fs[f]? with
        | some (ft, off, _) => match T ft with
          | some fty => partA fty cs off
          | none => none
        | none => none
      | _ => none
    | _, _ => none
noncomputable def qf_indexAddr (T : Tb) (e : Env) (H : Heap) (t : TypeId) (x : Operand) (i : Operand) : Option A :=
  match T t, opndF e x, opndF e i with
    | some ty, some a, some (.v (.int _ n)) => match ty.k with
      | .slice el => match T el with
        | some te => match a with
          | .ref b off len sz => if 0 ≤ n ∧ n < len ∧ sz = te.size then some (.ptr b (off + n.toNat * te.size)) else none
          | .sl len cs => if 0 ≤ n ∧ n < len then some (.fp (cs.drop (n.toNat * te.size))) else none
          | _ => none
        | none => none
      | .array len el => match T el with
        | some te => if 0 ≤ n ∧ n < len then
            match a with
            | .ptr b off => some (.ptr b (off + n.toNat * te.size))
            | .v (.pointer (some ⟨g, off, none⟩)) => some (.v (.pointer (some ⟨g, off + n.toNat * te.size, none⟩)))
            | .fp cs => some (.fp (cs.drop (n.toNat * te.size)))
            | _ => none
          else none
        | none => none
      | _ => none
    | _, _, _ => none
noncomputable def qf_index (T : Tb) (e : Env) (H : Heap) (t : TypeId) (x : Operand) (i : Operand) : Option A :=
  match T t, opndF e x, opndF e i with
    | some ty, some a, some (.v (.int _ n)) => match ty.k with
      | .array len el => match T el, a with
        | some te, .agg cs => if 0 ≤ n ∧ n < len then partA te cs (n.toNat * te.size) else none
        | _, _ => none
      | .str => match a with
        | .v (.string s) => if 0 ≤ n then (s[n.toNat]?).map fun b => .v (.int .u8 b.toNat) else none
        | _ => none
      | _ => none
    | _, _, _ => none
noncomputable def qf_slice (T : Tb) (e : Env) (H : Heap) (t : TypeId) (x : Operand) (lo : Option Operand) (hi : Option Operand) (mx : Option Operand) : Option A :=
  match mx, T t, opndF e x, opndO e lo, opndO e hi with
    | none, some ty, some a, some l, some h => match ty.k with
      | .str => match a with
        | .v (.string s) => match bnds s.size l h with
          | some (i, j) => some (.v (.string (subB s i j)))
          | none => none
        | _ => none
      | .slice el => match T el with
        | some te => match a with
          | .ref b off len sz => match bnds len l h with
            | some (i, j) => if sz = te.size then if i < len then some (.ref b (off + i * sz) (j - i) sz) else some (.sl 0 []) else none
            | none => none
          | .sl len cs => match bnds len l h with
            | some (i, j) => if cs.length = len * te.size then some (.sl (j - i) ((cs.drop (i * te.size)).take ((j - i) * te.size))) else none
            | none => none
          | .v (.slice none 0 0) => match bnds 0 l h with
            | some _ => some (.v (.slice none 0 0))
            | none => none
          | _ => none
        | none => none
      | .array n el => match T el, bnds n l h with
        | some te, some (i, j) => match a with
          | .fp cs => if n * te.size ≤ cs.length then some (.sl (j - i) ((cs.drop (i * te.size)).take ((j - i) * te.size))) else none
          | .ptr b off => match H[b]? with
            | some (some k) => if k.whole && Nat.ble (off + n * te.size) k.cs.length && Nat.ble n maxLen then if i < n then some (.ref b (off + i * te.size) (j - i) te.size) else some (.sl 0 []) else none
            | _ => none
          | _ => none
        | _, _ => none
      | _ => none
    | _, _, _, _, _ => none
noncomputable def qf_extract (T : Tb) (e : Env) (H : Heap) (x : Operand) (i : Nat) : Option A :=
  match opndF e x with
    | some (.tup cs) => cs[i]?
    | some (.v (.tuple xs)) => (xs[i]?).map ofV
    | _ => none
noncomputable def qf_lookup (T : Tb) (e : Env) (H : Heap) (t : TypeId) (m : Operand) (k : Operand) (ok : Bool) : Option A :=
  match T t, opndF e m, (opndF e k).bind keyA with
    | some ty, some mv, some key => match ty.k with
      | .map kt et => match T kt, T et, entriesA H mv with
        | some tk, some te, some es => match findK T kt tk key es with
            | some (some (_, a)) => some (if ok then .tup [a, .v (.bool true)] else a)
            | some none => match zeroA te with
              | some z => some (if ok then .tup [z, .v (.bool false)] else z)
              | none => none
            | none => none
        | _, _, _ => none
      | _ => none
    | _, _, _ => none
noncomputable def qf_makeFunc (T : Tb) (e : Env) (H : Heap) (fn : Fn) (first : Array Operand) (caps : Array Operand) : Option A :=
  match fn, opndsF e first.toList, opndsF e caps.toList with
    | .func f, some xs, some ys => some (.clo f xs ys)
    | _, _, _ => none
noncomputable def qf_call (T : Tb) (e : Env) (H : Heap) (c : Call) : Option A :=
  match c.callee with
    | .builtin .len => match opndsF e c.args.toList, (c.argTypes[0]?).bind T.ty with
      | some [a], some ty => match ty.k with
        | .str => match a with
          | .v (.string s) => some (.v (.int .i64 s.size))
          | _ => none
        | .array n _ => some (.v (.int .i64 n))
        | .slice _ => match a with
          | .ref _ _ len _ => some (.v (.int .i64 len))
          | .sl len _ => some (.v (.int .i64 len))
          | .v (.slice none n _) => some (.v (.int .i64 n))
          | _ => none
        | _ => none
      | _, _ => none
    | .builtin .min => match opndsF e c.args.toList with
      | some (x :: l) => quietOp.minA false x l
      | _ => none
    | .builtin .cap => match opndsF e c.args.toList, (c.argTypes[0]?).bind T.ty with
      | some [.v (.slice none _ n)], some ty => match ty.k with
        | .slice _ => some (.v (.int .i64 n))
        | _ => none
      | _, _ => none
    | .builtin .unsafeSliceData => match opndsF e c.args.toList with
      | some [.v (.slice none _ _)] => some (.v (.pointer none))
      | some [.ref b off (_ + 1) _] => some (.ptr b off)
      | _ => none
    | .builtin .max => match opndsF e c.args.toList with
      | some (x :: l) => quietOp.minA true x l
      | _ => none
    | _ => none
noncomputable def lf_alloc (T : Tb) (e : Env) (H : Heap) (t : TypeId) : Option (A × Heap) :=
  match T t with
    | some ty => some (.ptr H.length 0, H ++ [some ⟨t, ty.zero.map .v, true⟩])
    | none => none
noncomputable def lf_range (T : Tb) (e : Env) (H : Heap) (t : TypeId) (x : Operand) : Option (A × Heap) :=
  match T t, opndF e x with
    | some ty, some (.v (.string s)) => match ty.k with
      | .str => some (.it H.length, H ++ [some ⟨0, [.its s 0], true⟩])
      | _ => none
    | _, _ => none
noncomputable def lf_next (T : Tb) (e : Env) (H : Heap) (x : Operand) (str : Bool) : Option (A × Heap) :=
  bif str then nextA e H x else none
noncomputable def lf_insert (T : Tb) (e : Env) (H : Heap) (t : TypeId) (m : Operand) (k : Operand) (v : Operand) : Option (A × Heap) :=
  putMap T e H t m k v
noncomputable def lf_mapUpdate (T : Tb) (e : Env) (H : Heap) (t : TypeId) (m : Operand) (k : Operand) (v : Operand) : Option (A × Heap) :=
  putMap T e H t m k v
noncomputable def lf_mapEntry (T : Tb) (e : Env) (H : Heap) (t : TypeId) (m : Operand) (k : Operand) : Option (A × Heap) :=
  entryA T e H t m k
noncomputable def lf_entryStore (T : Tb) (e : Env) (H : Heap) (z0 : TypeId) (m : Operand) (s : Operand) (x : Operand) : Option (A × Heap) :=
  storeE e H m s x
noncomputable def lf_makeMap (T : Tb) (e : Env) (H : Heap) (t : TypeId) (z1 : Option Operand) : Option (A × Heap) :=
  match z1 with
  | some _ => none
  | none => match T t with
    | some ty => match ty.k with
      | .map _ _ => some (.mp H.length, H ++ [some ⟨t, [], true⟩])
      | _ => none
    | none => none
noncomputable def lf_box (T : Tb) (e : Env) (H : Heap) (t : TypeId) (x : Operand) : Option (A × Heap) :=
  match opndF e x with
    | some a => if ones (cellsA a) then some (.ptr H.length 0, H ++ [some ⟨t, cellsA a, true⟩]) else none
    | none => none
noncomputable def lf_buildSlice (T : Tb) (e : Env) (H : Heap) (t : TypeId) (len : Nat) (parts : Array (Nat × Operand)) : Option (A × Heap) :=
  match litCells T e t len parts with
    | some (el, sz, cs) => if ones cs then some (.ref H.length 0 len sz, H ++ [some ⟨el, cs, true⟩]) else none
    | none => none
noncomputable def lf_store (T : Tb) (e : Env) (H : Heap) (t : TypeId) (p : Operand) (x : Operand) : Option (A × Heap) :=
  match opndF e p, opndF e x, T t with
    | some (.ptr b off), some a, some ty => match H[b]? with
      | some (some k) =>
        if (cellsA a).length = ty.size ∧ off + ty.size ≤ k.cs.length ∧ ones (cellsA a) then some (.v undef, H.set b (some ⟨k.e, k.cs.take off ++ cellsA a ++ k.cs.drop (off + ty.size), k.whole⟩)) else none
      | _ => none
    | _, _, _ => none
noncomputable def lf_makeSlice (T : Tb) (e : Env) (H : Heap) (t : TypeId) (l : Operand) (c : Operand) : Option (A × Heap) :=
  match T t, opndF e l, opndF e c with
    | some ty, some (.v (.int _ n)), some (.v (.int _ m)) => match ty.k with
      | .slice el => match T el with
        | some te => if 0 ≤ n ∧ n ≤ m ∧ m * te.bytes ≤ 2 ^ 47 ∧ m ≤ (maxLen : Int) ∧ 0 < te.size ∧ te.zero.length = te.size then some (.ref H.length 0 n.toNat te.size, H ++ [some ⟨el, zeros te.zero m.toNat, true⟩]) else none
        | none => none
      | _ => none
    | _, _, _ => none
noncomputable def lf_call (T : Tb) (e : Env) (H : Heap) (c : Call) : Option (A × Heap) :=
  match c.callee with
    | .builtin .append => match opndsF e c.args.toList, c.argTypes.toList with
      | some [s, x], [t, t'] => match T t with
        | some ty => match ty.k with
          | .slice el => match T el with
            | some te => match loudOp.srcT T H te t t' x with
              | some (m, news) => if news.length = m * te.size ∧ te.zero.length = te.size ∧ ones news then
                match s with
                | .v (.slice none 0 0) =>
                  if m = 0 then some (s, H)
                  else if m ≤ maxLen ∧ m * te.bytes ≤ 2 ^ 47 then some (.ref H.length 0 m te.size, H ++ [some ⟨el, news, false⟩]) else none
                | .ref b 0 n sz => match H[b]? with
                  | some (some k) =>
                    if sz = te.size ∧ k.e = el ∧ n * sz ≤ k.cs.length ∧ n + m ≤ maxLen ∧ (n + m) * te.bytes ≤ 2 ^ 47 then
                      some (.ref H.length 0 (n + m) sz, H.set b none ++ [some ⟨el, k.cs.take (n * sz) ++ news, false⟩])
                    else none
                  | _ => none
                | _ => none
                else none
              | none => none
            | none => none
          | _ => none
        | none => none
      | _, _ => none
    | .builtin .unsafeString => match opndsF e c.args.toList, c.argTypes[0]? with
      | some [p, .v (.int .i64 n)], some pt => strOf T H pt p n
      | _, _ => none
    | .builtin .copy => match opndsF e c.args.toList, (c.argTypes[0]?).bind T.ty with
      | some [d, x], some ty => match ty.k with
        | .slice el => match T el with
          | some te => match loudOp.srcL H te.size x with
            | some (m, news) => match d with
              | .ref b off n sz => match H[b]? with
                | some (some k) =>
                  let j := min m n
                  let new := news.take (j * sz)
                  if sz = te.size ∧ news.length = m * te.size ∧ off + j * sz ≤ k.cs.length ∧ ones new then
                    some (.v (.int .i64 j), H.set b (some ⟨k.e, k.cs.take off ++ new ++ k.cs.drop (off + j * sz), k.whole⟩))
                  else none
                | _ => none
              | .v (.slice none 0 0) => some (.v (.int .i64 0), H)
              | .sl 0 _ => some (.v (.int .i64 0), H)
              | _ => none
            | none => none
          | none => none
        | _ => none
      | _, _ => none
    | _ => none
theorem qf_move_eq (T : Tb) (e : Env) (H : Heap) (x : Operand) : qf_move T e H x = quietOp T e H (.move x) := by
  unfold qf_move quietOp
  simp only [opndF_eq, opndsF_eq, binF_eq, subB_eq]
  all_goals rfl
theorem qf_assign_eq (T : Tb) (e : Env) (H : Heap) (x : Operand) : qf_assign T e H x = quietOp T e H (.assign x) := by
  unfold qf_assign quietOp
  simp only [opndF_eq, opndsF_eq, binF_eq, subB_eq]
  all_goals rfl
theorem qf_pick_eq (T : Tb) (e : Env) (H : Heap) (c : Operand) (a : Operand) (b : Operand) : qf_pick T e H c a b = quietOp T e H (.pick c a b) := by
  unfold qf_pick quietOp
  simp only [opndF_eq, opndsF_eq, binF_eq, subB_eq]
  all_goals rfl
theorem qf_load_eq (T : Tb) (e : Env) (H : Heap) (t : TypeId) (x : Operand) : qf_load T e H t x = quietOp T e H (.load t x) := by
  unfold qf_load quietOp
  simp only [opndF_eq, opndsF_eq, binF_eq, subB_eq]
  all_goals rfl
theorem qf_nilCheck_eq (T : Tb) (e : Env) (H : Heap) (x : Operand) : qf_nilCheck T e H x = quietOp T e H (.nilCheck x) := by
  unfold qf_nilCheck quietOp
  simp only [opndF_eq, opndsF_eq, binF_eq, subB_eq]
  all_goals rfl
theorem qf_binOp_eq (T : Tb) (e : Env) (H : Heap) (op : BinOp) (t : TypeId) (x : Operand) (y : Operand) (z4 : TypeId) : qf_binOp T e H op t x y z4 = quietOp T e H (.binOp op t x y z4) := by
  unfold qf_binOp quietOp
  simp only [opndF_eq, opndsF_eq, binF_eq, subB_eq]
  all_goals rfl
theorem qf_unOp_eq (T : Tb) (e : Env) (H : Heap) (op : UnOp) (z1 : TypeId) (x : Operand) : qf_unOp T e H op z1 x = quietOp T e H (.unOp op z1 x) := by
  unfold qf_unOp quietOp
  simp only [opndF_eq, opndsF_eq, binF_eq, subB_eq]
  all_goals rfl
theorem qf_convert_eq (T : Tb) (e : Env) (H : Heap) (src : TypeId) (dst : TypeId) (x : Operand) : qf_convert T e H src dst x = quietOp T e H (.convert src dst x) := by
  unfold qf_convert quietOp
  simp only [opndF_eq, opndsF_eq, binF_eq, subB_eq]
  all_goals rfl
theorem qf_build_eq (T : Tb) (e : Env) (H : Heap) (t : TypeId) (parts : Array (Nat × Operand)) : qf_build T e H t parts = quietOp T e H (.build t parts) := by
  unfold qf_build quietOp
  simp only [opndF_eq, opndsF_eq, binF_eq, subB_eq]
  all_goals rfl
theorem qf_fieldAddr_eq (T : Tb) (e : Env) (H : Heap) (t : TypeId) (x : Operand) (f : Nat) : qf_fieldAddr T e H t x f = quietOp T e H (.fieldAddr t x f) := by
  unfold qf_fieldAddr quietOp
  simp only [opndF_eq, opndsF_eq, binF_eq, subB_eq]
  all_goals rfl
theorem qf_field_eq (T : Tb) (e : Env) (H : Heap) (t : TypeId) (x : Operand) (f : Nat) : qf_field T e H t x f = quietOp T e H (.field t x f) := by
  unfold qf_field quietOp
  simp only [opndF_eq, opndsF_eq, binF_eq, subB_eq]
  all_goals rfl
theorem qf_indexAddr_eq (T : Tb) (e : Env) (H : Heap) (t : TypeId) (x : Operand) (i : Operand) : qf_indexAddr T e H t x i = quietOp T e H (.indexAddr t x i) := by
  unfold qf_indexAddr quietOp
  simp only [opndF_eq, opndsF_eq, binF_eq, subB_eq]
  all_goals rfl
theorem qf_index_eq (T : Tb) (e : Env) (H : Heap) (t : TypeId) (x : Operand) (i : Operand) : qf_index T e H t x i = quietOp T e H (.index t x i) := by
  unfold qf_index quietOp
  simp only [opndF_eq, opndsF_eq, binF_eq, subB_eq]
  all_goals rfl
theorem qf_slice_eq (T : Tb) (e : Env) (H : Heap) (t : TypeId) (x : Operand) (lo : Option Operand) (hi : Option Operand) (mx : Option Operand) : qf_slice T e H t x lo hi mx = quietOp T e H (.slice t x lo hi mx) := by
  unfold qf_slice quietOp
  simp only [opndF_eq, opndsF_eq, binF_eq, subB_eq]
  all_goals rfl
theorem qf_extract_eq (T : Tb) (e : Env) (H : Heap) (x : Operand) (i : Nat) : qf_extract T e H x i = quietOp T e H (.extract x i) := by
  unfold qf_extract quietOp
  simp only [opndF_eq, opndsF_eq, binF_eq, subB_eq]
  all_goals rfl
theorem qf_lookup_eq (T : Tb) (e : Env) (H : Heap) (t : TypeId) (m : Operand) (k : Operand) (ok : Bool) : qf_lookup T e H t m k ok = quietOp T e H (.lookup t m k ok) := by
  unfold qf_lookup quietOp
  simp only [opndF_eq, opndsF_eq, binF_eq, subB_eq]
  all_goals rfl
theorem qf_makeFunc_eq (T : Tb) (e : Env) (H : Heap) (fn : Fn) (first : Array Operand) (caps : Array Operand) : qf_makeFunc T e H fn first caps = quietOp T e H (.makeFunc fn first caps) := by
  unfold qf_makeFunc quietOp
  simp only [opndF_eq, opndsF_eq, binF_eq, subB_eq]
  all_goals rfl
theorem qf_call_eq (T : Tb) (e : Env) (H : Heap) (c : Call) : qf_call T e H c = quietOp T e H (.call c) := by
  unfold qf_call quietOp
  simp only [opndF_eq, opndsF_eq, binF_eq, subB_eq]
  all_goals rfl
theorem lf_alloc_eq (T : Tb) (e : Env) (H : Heap) (t : TypeId) : lf_alloc T e H t = loudOp T e H (.alloc t) := by
  unfold lf_alloc loudOp
  simp only [opndF_eq, opndsF_eq, binF_eq, subB_eq]
  all_goals rfl
theorem lf_range_eq (T : Tb) (e : Env) (H : Heap) (t : TypeId) (x : Operand) : lf_range T e H t x = loudOp T e H (.range t x) := by
  unfold lf_range loudOp
  simp only [opndF_eq, opndsF_eq, binF_eq, subB_eq]
  all_goals rfl
theorem lf_next_eq (T : Tb) (e : Env) (H : Heap) (x : Operand) (str : Bool) : lf_next T e H x str = loudOp T e H (.next x str) := by
  unfold lf_next loudOp
  simp only [opndF_eq, opndsF_eq, binF_eq, subB_eq]
  all_goals rfl
theorem lf_insert_eq (T : Tb) (e : Env) (H : Heap) (t : TypeId) (m : Operand) (k : Operand) (v : Operand) : lf_insert T e H t m k v = loudOp T e H (.insert t m k v) := by
  unfold lf_insert loudOp
  simp only [opndF_eq, opndsF_eq, binF_eq, subB_eq]
  all_goals rfl
theorem lf_mapUpdate_eq (T : Tb) (e : Env) (H : Heap) (t : TypeId) (m : Operand) (k : Operand) (v : Operand) : lf_mapUpdate T e H t m k v = loudOp T e H (.mapUpdate t m k v) := by
  unfold lf_mapUpdate loudOp
  simp only [opndF_eq, opndsF_eq, binF_eq, subB_eq]
  all_goals rfl
theorem lf_mapEntry_eq (T : Tb) (e : Env) (H : Heap) (t : TypeId) (m : Operand) (k : Operand) : lf_mapEntry T e H t m k = loudOp T e H (.mapEntry t m k) := by
  unfold lf_mapEntry loudOp
  simp only [opndF_eq, opndsF_eq, binF_eq, subB_eq]
  all_goals rfl
theorem lf_entryStore_eq (T : Tb) (e : Env) (H : Heap) (z0 : TypeId) (m : Operand) (s : Operand) (x : Operand) : lf_entryStore T e H z0 m s x = loudOp T e H (.entryStore z0 m s x) := by
  unfold lf_entryStore loudOp
  simp only [opndF_eq, opndsF_eq, binF_eq, subB_eq]
  all_goals rfl
theorem lf_makeMap_eq (T : Tb) (e : Env) (H : Heap) (t : TypeId) (z1 : Option Operand) : lf_makeMap T e H t z1 = loudOp T e H (.makeMap t z1) := by
  cases z1 <;> simp only [lf_makeMap, loudOp] <;> rfl
theorem lf_box_eq (T : Tb) (e : Env) (H : Heap) (t : TypeId) (x : Operand) : lf_box T e H t x = loudOp T e H (.box t x) := by
  unfold lf_box loudOp
  simp only [opndF_eq, opndsF_eq, binF_eq, subB_eq]
  all_goals rfl
theorem lf_buildSlice_eq (T : Tb) (e : Env) (H : Heap) (t : TypeId) (len : Nat) (parts : Array (Nat × Operand)) : lf_buildSlice T e H t len parts = loudOp T e H (.buildSlice t len parts) := by
  unfold lf_buildSlice loudOp
  simp only [opndF_eq, opndsF_eq, binF_eq, subB_eq]
  all_goals rfl
theorem lf_store_eq (T : Tb) (e : Env) (H : Heap) (t : TypeId) (p : Operand) (x : Operand) : lf_store T e H t p x = loudOp T e H (.store t p x) := by
  unfold lf_store loudOp
  simp only [opndF_eq, opndsF_eq, binF_eq, subB_eq]
  all_goals rfl
theorem lf_makeSlice_eq (T : Tb) (e : Env) (H : Heap) (t : TypeId) (l : Operand) (c : Operand) : lf_makeSlice T e H t l c = loudOp T e H (.makeSlice t l c) := by
  unfold lf_makeSlice loudOp
  simp only [opndF_eq, opndsF_eq, binF_eq, subB_eq]
  all_goals rfl
theorem lf_call_eq (T : Tb) (e : Env) (H : Heap) (c : Call) : lf_call T e H c = loudOp T e H (.call c) := by
  unfold lf_call loudOp
  simp only [opndF_eq, opndsF_eq, binF_eq, subB_eq]
  all_goals rfl
def mapH (r : Option A) (H : Heap) : Option (A × Heap) := match r with
  | some a => some (a, H)
  | none => none
theorem mapH_eq (r : Option A) (H : Heap) : mapH r H = r.map fun a => (a, H) := by cases r <;> rfl
noncomputable def callF (T : Tb) (o : Orc) (e : Env) (H : Heap) (c : Call) : Option (A × Heap) := match c.callee with
  | .value f => match opndF e f with
    | some u => match callee u with
      | some (g, fs, caps) => match opndsF e c.args.toList with
        | some l => o g (fs ++ l ++ caps) H
        | none => none
      | none => none
    | none => none
  | .builtin b => match b with
    | .append => lf_call T e H c
    | .copy => lf_call T e H c
    | .unsafeString => lf_call T e H c
    | _ => mapH (qf_call T e H c) H
  | _ => none
theorem callF_eq (T : Tb) (o : Orc) (e : Env) (H : Heap) (c : Call) : callF T o e H c = anyOp T o ⟨e, H⟩ (.call c) := by
  unfold callF anyOp
  simp only [calls]
  cases hc : c.callee with
  | value f =>
    simp only [opndF_eq, opndsF_eq]
    cases h1 : opnd e f with
    | none => simp [loudOp, quietOp, hc]
    | some u =>
      simp only [Option.bind_some]
      cases h2 : callee u with
      | none => simp [loudOp, quietOp, hc]
      | some r =>
        obtain ⟨g, fs, caps⟩ := r
        cases h3 : opnds e c.args.toList with
        | none => simp [loudOp, quietOp, hc]
        | some l => rfl
  | builtin b =>
    cases b <;> simp only [mapH_eq, qf_call_eq, lf_call_eq] <;> first
      | (have hl : loudOp T e H (.call c) = none := by simp only [loudOp, hc]
         rw [hl])
      | (cases hl : loudOp T e H (.call c) with
         | some r => rfl
         | none => simp [quietOp, hc])
  | invoke r m => simp [loudOp, quietOp, hc]
noncomputable def anyF (T : Tb) (o : Orc) (e : Env) (H : Heap) : Op → Option (A × Heap)
  | .alloc t => lf_alloc T e H t
  | .range t x => lf_range T e H t x
  | .next x str => lf_next T e H x str
  | .insert t m k v => lf_insert T e H t m k v
  | .mapUpdate t m k v => lf_mapUpdate T e H t m k v
  | .mapEntry t m k => lf_mapEntry T e H t m k
  | .entryStore z0 m s x => lf_entryStore T e H z0 m s x
  | .makeMap t z1 => lf_makeMap T e H t z1
  | .box t x => lf_box T e H t x
  | .buildSlice t len parts => lf_buildSlice T e H t len parts
  | .store t p x => lf_store T e H t p x
  | .makeSlice t l c => lf_makeSlice T e H t l c
  | .move x => mapH (qf_move T e H x) H
  | .assign x => mapH (qf_assign T e H x) H
  | .pick c a b => mapH (qf_pick T e H c a b) H
  | .load t x => mapH (qf_load T e H t x) H
  | .nilCheck x => mapH (qf_nilCheck T e H x) H
  | .binOp op t x y z4 => mapH (qf_binOp T e H op t x y z4) H
  | .unOp op z1 x => mapH (qf_unOp T e H op z1 x) H
  | .convert src dst x => mapH (qf_convert T e H src dst x) H
  | .build t parts => mapH (qf_build T e H t parts) H
  | .fieldAddr t x f => mapH (qf_fieldAddr T e H t x f) H
  | .field t x f => mapH (qf_field T e H t x f) H
  | .indexAddr t x i => mapH (qf_indexAddr T e H t x i) H
  | .index t x i => mapH (qf_index T e H t x i) H
  | .slice t x lo hi mx => mapH (qf_slice T e H t x lo hi mx) H
  | .extract x i => mapH (qf_extract T e H x i) H
  | .lookup t m k ok => mapH (qf_lookup T e H t m k ok) H
  | .makeFunc fn first caps => mapH (qf_makeFunc T e H fn first caps) H
  | .call c => callF T o e H c
  | _ => none
theorem anyF_eq (T : Tb) (o : Orc) (e : Env) (H : Heap) (op : Op) : anyF T o e H op = anyOp T o ⟨e, H⟩ op := by
  cases op
  case alloc => simp only [anyF, lf_alloc_eq, anyOp, calls]; cases loudOp T e H _ <;> rfl
  case range => simp only [anyF, lf_range_eq, anyOp, calls]; cases loudOp T e H _ <;> rfl
  case next => simp only [anyF, lf_next_eq, anyOp, calls]; cases loudOp T e H _ <;> rfl
  case insert => simp only [anyF, lf_insert_eq, anyOp, calls]; cases loudOp T e H _ <;> rfl
  case mapUpdate => simp only [anyF, lf_mapUpdate_eq, anyOp, calls]; cases loudOp T e H _ <;> rfl
  case mapEntry => simp only [anyF, lf_mapEntry_eq, anyOp, calls]; cases loudOp T e H _ <;> rfl
  case entryStore => simp only [anyF, lf_entryStore_eq, anyOp, calls]; cases loudOp T e H _ <;> rfl
  case makeMap => simp only [anyF, lf_makeMap_eq, anyOp, calls]; cases loudOp T e H _ <;> rfl
  case box => simp only [anyF, lf_box_eq, anyOp, calls]; cases loudOp T e H _ <;> rfl
  case buildSlice => simp only [anyF, lf_buildSlice_eq, anyOp, calls]; cases loudOp T e H _ <;> rfl
  case store => simp only [anyF, lf_store_eq, anyOp, calls]; cases loudOp T e H _ <;> rfl
  case makeSlice => simp only [anyF, lf_makeSlice_eq, anyOp, calls]; cases loudOp T e H _ <;> rfl
  case move => simp only [anyF, qf_move_eq, mapH_eq, anyOp, calls, loudOp]
  case assign => simp only [anyF, qf_assign_eq, mapH_eq, anyOp, calls, loudOp]
  case pick => simp only [anyF, qf_pick_eq, mapH_eq, anyOp, calls, loudOp]
  case load => simp only [anyF, qf_load_eq, mapH_eq, anyOp, calls, loudOp]
  case nilCheck => simp only [anyF, qf_nilCheck_eq, mapH_eq, anyOp, calls, loudOp]
  case binOp => simp only [anyF, qf_binOp_eq, mapH_eq, anyOp, calls, loudOp]
  case unOp => simp only [anyF, qf_unOp_eq, mapH_eq, anyOp, calls, loudOp]
  case convert => simp only [anyF, qf_convert_eq, mapH_eq, anyOp, calls, loudOp]
  case build => simp only [anyF, qf_build_eq, mapH_eq, anyOp, calls, loudOp]
  case fieldAddr => simp only [anyF, qf_fieldAddr_eq, mapH_eq, anyOp, calls, loudOp]
  case field => simp only [anyF, qf_field_eq, mapH_eq, anyOp, calls, loudOp]
  case indexAddr => simp only [anyF, qf_indexAddr_eq, mapH_eq, anyOp, calls, loudOp]
  case index => simp only [anyF, qf_index_eq, mapH_eq, anyOp, calls, loudOp]
  case slice => simp only [anyF, qf_slice_eq, mapH_eq, anyOp, calls, loudOp]
  case extract => simp only [anyF, qf_extract_eq, mapH_eq, anyOp, calls, loudOp]
  case lookup => simp only [anyF, qf_lookup_eq, mapH_eq, anyOp, calls, loudOp]
  case makeFunc => simp only [anyF, qf_makeFunc_eq, mapH_eq, anyOp, calls, loudOp]
  case call c => exact callF_eq T o e H c
  all_goals rfl
noncomputable def quietF (T : Tb) (e : Env) (H : Heap) : Op → Option A
  | .move x => qf_move T e H x
  | .assign x => qf_assign T e H x
  | .pick c a b => qf_pick T e H c a b
  | .load t x => qf_load T e H t x
  | .nilCheck x => qf_nilCheck T e H x
  | .binOp op t x y z4 => qf_binOp T e H op t x y z4
  | .unOp op z1 x => qf_unOp T e H op z1 x
  | .convert src dst x => qf_convert T e H src dst x
  | .build t parts => qf_build T e H t parts
  | .fieldAddr t x f => qf_fieldAddr T e H t x f
  | .field t x f => qf_field T e H t x f
  | .indexAddr t x i => qf_indexAddr T e H t x i
  | .index t x i => qf_index T e H t x i
  | .slice t x lo hi mx => qf_slice T e H t x lo hi mx
  | .extract x i => qf_extract T e H x i
  | .lookup t m k ok => qf_lookup T e H t m k ok
  | .makeFunc fn first caps => qf_makeFunc T e H fn first caps
  | .call c => qf_call T e H c
  | _ => none
theorem quietF_eq (T : Tb) (e : Env) (H : Heap) (op : Op) : quietF T e H op = quietOp T e H op := by
  cases op
  case move => simp only [quietF, qf_move_eq]
  case assign => simp only [quietF, qf_assign_eq]
  case pick => simp only [quietF, qf_pick_eq]
  case load => simp only [quietF, qf_load_eq]
  case nilCheck => simp only [quietF, qf_nilCheck_eq]
  case binOp => simp only [quietF, qf_binOp_eq]
  case unOp => simp only [quietF, qf_unOp_eq]
  case convert => simp only [quietF, qf_convert_eq]
  case build => simp only [quietF, qf_build_eq]
  case fieldAddr => simp only [quietF, qf_fieldAddr_eq]
  case field => simp only [quietF, qf_field_eq]
  case indexAddr => simp only [quietF, qf_indexAddr_eq]
  case index => simp only [quietF, qf_index_eq]
  case slice => simp only [quietF, qf_slice_eq]
  case extract => simp only [quietF, qf_extract_eq]
  case lookup => simp only [quietF, qf_lookup_eq]
  case makeFunc => simp only [quietF, qf_makeFunc_eq]
  case call => simp only [quietF, qf_call_eq]
  all_goals rfl
noncomputable def freeF (T : Tb) (q : OrcQ) (st : St) (op : Op) : Option A := match op with
  | .call c => freeOp T q st (.call c)
  | .buildSlice t n ps => freeOp T q st (.buildSlice t n ps)
  | op => quietF T st.env st.H op
theorem freeF_eq (T : Tb) (q : OrcQ) (st : St) (op : Op) : freeF T q st op = freeOp T q st op := by
  cases op <;> simp only [freeF, quietF_eq] <;> rfl
/-! Alike, as far as lookups go. -/
def EqE (e e' : Env) : Prop := ∀ t, look e t = look e' t
theorem EqE.put {e e' : Env} (h : EqE e e') (d : Option Nat) (x : A) : EqE (put e d x) (put e' d x) := by
  intro t
  cases d with
  | none => exact h t
  | some d =>
    simp only [Ev.put, look]
    rw [h t]
theorem EqE.opnd {e e' : Env} (h : EqE e e') (x : Operand) : opnd e x = opnd e' x := by
  cases x <;> simp only [Ev.opnd]
  exact h _
theorem EqE.agree {e e' : Env} (h : EqE e e') (l : List Operand) : Agree l e e' := fun x _ => h.opnd x
theorem EqE.wants {e e' : Env} (h : EqE e e') (g : Option (Nat × Bool)) : wants e g = wants e' g := by
  cases g with
  | none => rfl
  | some p =>
    simp only [Ev.wants]
    rw [h]
theorem EqE.any {T : Tb} {ov : Orc} {e e' : Env} (h : EqE e e') (H : Heap) (op : Op) : anyOp T ov ⟨e, H⟩ op = anyOp T ov ⟨e', H⟩ op := any_congr (h.agree _)
theorem EqE.free {T : Tb} {q : OrcQ} {e e' : Env} (h : EqE e e') (H : Heap) (op : Op) : freeOp T q ⟨e, H⟩ op = freeOp T q ⟨e', H⟩ op := by
  unfold freeOp
  simp only
  rw [calls_congr (h.agree _)]
  cases calls e' op with
  | some fa => obtain ⟨f | b, l⟩ := fa <;> rfl
  | none =>
    cases op with
    | buildSlice t n ps => simp only [lit_congr (h.agree _)]
    | _ => exact quiet_congr (h.agree _)
theorem EqE.again {T : Tb} {e e' : Env} (h : EqE e e') (H : Heap) (m : MOp) : againOp T ⟨e, H⟩ m = againOp T ⟨e', H⟩ m := by
  unfold againOp
  simp only
  rw [h.wants, calls_congr (h.agree _)]
  cases Ev.wants e' m.guard with
  | none => rfl
  | some b =>
    cases b with
    | false => rfl
    | true =>
      cases calls e' m.op with
      | some fa => obtain ⟨f | b, l⟩ := fa <;> rfl
      | none =>
        rw [quiet_congr (h.agree _)]
        cases m.dst with
        | none => rfl
        | some d => simp only [h d]
theorem EqE.againAll {T : Tb} {e e' : Env} (h : EqE e e') (H : Heap) : ∀ ms : List MOp, againAll T ⟨e, H⟩ ms = againAll T ⟨e', H⟩ ms
  | [] => rfl
  | m :: ms => by
    unfold Ev.againAll
    rw [h.again, h.againAll H ms]
theorem EqE.keep {e e' : Env} (h : EqE e e') (l : List Nat) : keepE e l = keepE e' l := keepE_congr fun s _ => h s
/-- What stays, in one pass: the slots are the bits of a number. -/
def maskOf (l : List Nat) : Nat := l.foldr (fun s m => Nat.lor (Nat.shiftLeft 1 s) m) 0
noncomputable def keepM (e : Env) : Nat → Env := List.rec (fun _ => []) (fun p _ ih m => Bool.rec (Bool.rec (ih m) (p :: ih (Nat.xor m (Nat.shiftLeft 1 p.1))) (Nat.beq (Nat.land (Nat.shiftRight m p.1) 1) 1)) [] (Nat.beq m 0)) e
theorem tb1 (s t : Nat) : (1 <<< s).testBit t = decide (s = t) := by rw [Nat.shiftLeft_eq, Nat.one_mul, Nat.testBit_two_pow]
theorem testBit_mask : ∀ (l : List Nat) (t : Nat), (maskOf l).testBit t = decide (t ∈ l)
  | [], t => by simp [maskOf]
  | s :: l, t => by
    have ih := testBit_mask l t
    show (Nat.lor (Nat.shiftLeft 1 s) (maskOf l)).testBit t = _
    have h1 : Nat.lor (Nat.shiftLeft 1 s) (maskOf l) = (1 <<< s) ||| maskOf l := rfl
    rw [h1, Nat.testBit_or, ih, tb1]
    by_cases h : s = t
    · subst h
      simp
    · have h' : ¬ t = s := fun e => h e.symm
      simp [h, h']
theorem look_keepM : ∀ (e : Env) (m t : Nat), look (keepM e m) t = if m.testBit t then look e t else none
  | [], m, t => by
    show look [] t = _
    simp [look]
  | (s, x) :: e, m, t => by
    show look (Bool.rec (Bool.rec (keepM e m) ((s, x) :: keepM e (Nat.xor m (Nat.shiftLeft 1 s))) (Nat.beq (Nat.land (Nat.shiftRight m s) 1) 1)) [] (Nat.beq m 0)) t = _
    have hbit : Nat.beq (Nat.land (Nat.shiftRight m s) 1) 1 = m.testBit s := by
      have h1 : Nat.land (Nat.shiftRight m s) 1 = (m >>> s) &&& 1 := rfl
      rw [h1, Nat.and_one_is_mod, Nat.testBit_eq_decide_div_mod_eq, Nat.shiftRight_eq_div_pow]
      cases hh : Nat.beq (m / 2 ^ s % 2) 1 with
      | true => simp [Nat.eq_of_beq_eq_true hh]
      | false =>
        have : ¬ m / 2 ^ s % 2 = 1 := fun e => by rw [e] at hh; cases hh
        simp [this]
    rw [hbit]
    have h2 : Nat.xor m (Nat.shiftLeft 1 s) = m ^^^ (1 <<< s) := rfl
    cases h0 : Nat.beq m 0 with
    | true =>
      obtain rfl := Nat.eq_of_beq_eq_true h0
      simp [look]
    | false =>
      cases hb : Nat.testBit m s with
      | false =>
        show look (keepM e m) t = _
        rw [look_keepM e m t]
        by_cases hst : s = t
        · subst hst
          simp [hb]
        · simp only [look_cons, if_neg hst]
      | true =>
        show look ((s, x) :: keepM e (Nat.xor m (Nat.shiftLeft 1 s))) t = _
        rw [look_cons, look_cons]
        by_cases hst : s = t
        · subst hst
          simp [hb]
        · rw [if_neg hst, if_neg hst, look_keepM e _ t, h2, Nat.testBit_xor, tb1]
          simp [hst]
theorem keepM_eq (e e' : Env) (h : EqE e e') (l : List Nat) : EqE (keepM e (maskOf l)) (keepE e' l) := by
  intro t
  rw [look_keepM, look_keepE, testBit_mask, h t]
  by_cases ht : t ∈ l <;> simp [ht]
def SimS : Option St → Option St → Prop
  | some a, some b => EqE a.env b.env ∧ a.H = b.H
  | none, none => True
  | _, _ => False
def SimM : Option (Ex × St) → Option (Ex × St) → Prop
  | some a, some b => a.1 = b.1 ∧ EqE a.2.env b.2.env ∧ a.2.H = b.2.H
  | none, none => True
  | _, _ => False
noncomputable def moveF (k : Nat → St → Option St) (m : MOp) (x : Operand) (n : Nat) (st : St) : Option St := Option.rec none (fun a => k (n - 1) ⟨put st.env m.dst a, st.H⟩) (opndF st.env x)
noncomputable def stepOpF (T : Tb) (q : OrcQ) (o : Orc) (k : Nat → St → Option St) (m : MOp) (n : Nat) (st : St) : Option St := match n with
  | 0 => match anyF T o st.env st.H m.op with
    | some (a, H') => k 0 ⟨put st.env m.dst a, H'⟩
    | none => none
  | n + 1 => match freeF T q st m.op with
    | some a => k n ⟨put st.env m.dst a, st.H⟩
    | none => none
noncomputable def dispF (T : Tb) (q : OrcQ) (o : Orc) (k : Nat → St → Option St) (m : MOp) (n : Nat) (st : St) : Option St := match m.op with
  | .move x => moveF k m x n st
  | .assign x => moveF k m x n st
  | _ => stepOpF T q o k m n st
theorem dispF_eq (T : Tb) (q : OrcQ) (o : Orc) (k : Nat → St → Option St) (m : MOp) (n : Nat) (st : St) : dispF T q o k m n st = stepOpF T q o k m n st := by
  have key : ∀ x, (m.op = .move x ∨ m.op = .assign x) → moveF k m x n st = stepOpF T q o k m n st := by
    intro x hx
    unfold moveF stepOpF
    cases n with
    | zero =>
      have h1 : anyF T o st.env st.H m.op = (opnd st.env x).map fun a => (a, st.H) := by
        rw [anyF_eq]
        rcases hx with hx | hx <;> rw [hx] <;> rfl
      simp only [h1, opndF_eq]
      cases opnd st.env x <;> rfl
    | succ n =>
      have h1 : freeF T q st m.op = opnd st.env x := by
        rw [freeF_eq]
        rcases hx with hx | hx <;> rw [hx] <;> rfl
      simp only [h1, opndF_eq]
      cases opnd st.env x <;> rfl
  unfold dispF
  split
  · rename_i x hx
    exact key x (.inl hx)
  · rename_i x hx
    exact key x (.inr hx)
  · rfl
noncomputable def opF (T : Tb) (q : OrcQ) (o : Orc) (k : Nat → St → Option St) (m : MOp) (n : Nat) (st : St) : Option St := match m.guard with
  | none => dispF T q o k m n st
  | some g => match wants st.env (some g) with
    | none => none
    | some false => k (n - 1) ⟨put st.env m.dst (.v undef), st.H⟩
    | some true => dispF T q o k m n st
noncomputable def runOpsF (T : Tb) (q : OrcQ) (o : Orc) (ms : List MOp) : Nat → St → Option St := List.rec (fun _ st => some st) (fun m _ k => opF T q o k m) ms
theorem runOpsF_sim (T : Tb) (q : OrcQ) (o : Orc) : ∀ (ms : List MOp) (n : Nat) (e e' : Env) (H : Heap), EqE e e' → SimS (runOpsF T q o ms n ⟨e, H⟩) (runOps T q o n ms ⟨e', H⟩)
  | [], n, e, e', H, he => by
    rw [runOps]
    exact ⟨he, rfl⟩
  | m :: ms, n, e, e', H, he => by
    show SimS (opF T q o (runOpsF T q o ms) m n ⟨e, H⟩) _
    have hrun : runOps T q o n (m :: ms) ⟨e', H⟩ = (match wants e' m.guard with
      | none => none
      | some false => runOps T q o (n - 1) ms ⟨put e' m.dst (.v undef), H⟩
      | some true => match n with
        | n + 1 => match freeOp T q ⟨e', H⟩ m.op with
          | some a => runOps T q o n ms ⟨put e' m.dst a, H⟩
          | none => none
        | 0 => match anyOp T o ⟨e', H⟩ m.op with
          | some (a, H') => runOps T q o 0 ms ⟨put e' m.dst a, H'⟩
          | none => none) := by
      cases n <;> rw [runOps] <;> cases wants e' m.guard with
      | none => rfl
      | some b => cases b <;> rfl
    have hop : opF T q o (runOpsF T q o ms) m n ⟨e, H⟩ = (match wants e m.guard with
      | none => none
      | some false => runOpsF T q o ms (n - 1) ⟨put e m.dst (.v undef), H⟩
      | some true => stepOpF T q o (runOpsF T q o ms) m n ⟨e, H⟩) := by
      unfold opF
      simp only [dispF_eq]
      cases hg : m.guard with
      | none => rfl
      | some g => rfl
    rw [hrun, hop, he.wants]
    cases wants e' m.guard with
    | none => trivial
    | some b =>
      cases b with
      | false => exact runOpsF_sim T q o ms _ _ _ H (he.put _ _)
      | true =>
        simp only [stepOpF]
        cases n with
        | zero =>
          simp only [anyF_eq, he.any]
          cases anyOp T o ⟨e', H⟩ m.op with
          | none => trivial
          | some r => exact runOpsF_sim T q o ms _ _ _ _ (he.put _ _)
        | succ n =>
          simp only [freeF_eq, he.free]
          cases freeOp T q ⟨e', H⟩ m.op with
          | none => trivial
          | some r => exact runOpsF_sim T q o ms _ _ _ _ (he.put _ _)
/-- One statement; 'rec' for its parts. -/
noncomputable def seqF (rec : M → St → Option (Ex × St)) (a b : M) (st : St) : Option (Ex × St) := match rec a st with
  | some (.go, st') => rec b st'
  | r => r
noncomputable def condF (rec : M → St → Option (Ex × St)) (c : Operand) (a b : M) (st : St) : Option (Ex × St) := match opndF st.env c with
  | some (.v (.bool t)) => rec (bif t then a else b) st
  | _ => none
noncomputable def blockF (rec : M → St → Option (Ex × St)) (id : Nat) (a : M) (st : St) : Option (Ex × St) := match rec a st with
  | some (.out j, st') => bif Nat.beq j id then some (.go, st') else some (.out j, st')
  | r => r
noncomputable def loopF (rec : M → St → Option (Ex × St)) (a : M) (st : St) : Option (Ex × St) := match rec a st with
  | some (.go, st') => rec (.loop a) st'
  | r => r
noncomputable def rfF (o : Orc) (g : Operand) (nt : Nat) (ps sl : List Nat) (a b : M) (st : St) : Option (Ex × St) := match (opndF st.env g).bind callee with
  | some (.fn f, fs, caps) =>
    match o (.fn f) (fs ++ [.yl st.H.length] ++ caps) (st.H ++ [some (newRecA nt ps a b (keepE st.env sl))]) with
    | some (_, H') => match pending H' st.H.length with
      | some ex => some (ex, ⟨st.env, H'.set st.H.length none⟩)
      | none => none
    | none => none
  | _ => none
def goF (r : Option St) : Option (Ex × St) := match r with
  | some st' => some (.go, st')
  | none => none
theorem goF_sim {r r' : Option St} (h : SimS r r') : SimM (goF r) (match (generalizing := false) r' with | some st' => some (.go, st') | none => none) := by
  cases r <;> cases r' <;> first | exact h | exact ⟨rfl, h⟩
noncomputable def stepMF (T : Tb) (q : OrcQ) (o : Orc) (rec : M → St → Option (Ex × St)) : M → St → Option (Ex × St)
  | .skip, st => some (.go, st)
  | .reg keep ops free, st => goF (runOpsF T q o ops free ⟨keepM st.env (maskOf keep), st.H⟩)
  | .ops ops, st => goF (runOpsF T q o ops 0 st)
  | .again ops, st => bif againAll T st ops then some (.go, st) else none
  | .seq a b, st => seqF rec a b st
  | .cond c a b, st => condF rec c a b st
  | .block id a, st => blockF rec id a st
  | .loop a, st => loopF rec a st
  | .rf g nt ps sl a b, st => rfF o g nt ps sl a b st
  | .exit id, st => some (.out id, st)
  | .ret, st => some (.back, st)
  | .bad, _ => none
noncomputable def runMF (T : Tb) (q : OrcQ) (o : Orc) (n : Nat) : M → St → Option (Ex × St) := Nat.rec (fun _ _ => none) (fun _ rec => stepMF T q o rec) n
theorem simM_go {rec rec' : M → St → Option (Ex × St)} (hrec : ∀ m e e' H, EqE e e' → SimM (rec m ⟨e, H⟩) (rec' m ⟨e', H⟩)) {r r' : Option (Ex × St)} (h : SimM r r') (b : M) :
    SimM (match (generalizing := false) r with | some (.go, st') => rec b st' | r => r) (match (generalizing := false) r' with | some (.go, st') => rec' b st' | r => r) := by
  cases r with
  | none =>
    cases r' with
    | none => trivial
    | some x => exact h.elim
  | some x =>
    cases r' with
    | none => exact h.elim
    | some y =>
      obtain ⟨e1, s1, H1⟩ := x
      obtain ⟨e2, s2, H2⟩ := y
      obtain ⟨rfl, h2, h3⟩ := h
      simp only at h2 h3
      subst h3
      cases e1 with
      | go => exact hrec b _ _ _ h2
      | out id => exact ⟨rfl, h2, rfl⟩
      | back => exact ⟨rfl, h2, rfl⟩
theorem runMF_sim (T : Tb) (q : OrcQ) (o : Orc) : ∀ (n : Nat) (m : M) (e e' : Env) (H : Heap), EqE e e' → SimM (runMF T q o n m ⟨e, H⟩) (runM T q o n m ⟨e', H⟩)
  | 0, m, e, e', H, he => by
    rw [runM]
    trivial
  | n + 1, m, e, e', H, he => by
    show SimM (stepMF T q o (runMF T q o n) m ⟨e, H⟩) _
    have ih := runMF_sim T q o n
    cases m with
    | skip => simp only [stepMF, runM]; exact ⟨rfl, he, rfl⟩
    | exit id => simp only [stepMF, runM]; exact ⟨rfl, he, rfl⟩
    | ret => simp only [stepMF, runM]; exact ⟨rfl, he, rfl⟩
    | bad => simp only [stepMF, runM]; trivial
    | reg keep ops free =>
      simp only [stepMF, runM]
      exact goF_sim (runOpsF_sim T q o ops free _ _ H (keepM_eq e e' he keep))
    | ops ops =>
      simp only [stepMF, runM]
      exact goF_sim (runOpsF_sim T q o ops 0 _ _ H he)
    | again ops =>
      simp only [stepMF, runM, he.againAll]
      cases againAll T ⟨e', H⟩ ops with
      | true => exact ⟨rfl, he, rfl⟩
      | false => trivial
    | seq a b =>
      simp only [stepMF, seqF, runM]
      exact simM_go ih (ih a e e' H he) b
    | loop a =>
      simp only [stepMF, loopF, runM]
      exact simM_go ih (ih a e e' H he) (.loop a)
    | cond c a b =>
      simp only [stepMF, condF, opndF_eq, runM, he.opnd]
      cases opnd e' c with
      | none => trivial
      | some x =>
        cases x with
        | v y =>
          cases y with
          | bool t => exact ih _ e e' H he
          | _ => trivial
        | _ => trivial
    | block id a =>
      simp only [stepMF, blockF, runM]
      have h := ih a e e' H he
      revert h
      generalize runMF T q o n a ⟨e, H⟩ = r
      generalize runM T q o n a ⟨e', H⟩ = r'
      intro h
      cases r with
      | none =>
        cases r' with
        | none => trivial
        | some x => exact h.elim
      | some x =>
        cases r' with
        | none => exact h.elim
        | some y =>
          obtain ⟨e1, s1, H1⟩ := x
          obtain ⟨e2, s2, H2⟩ := y
          obtain ⟨rfl, h2, h3⟩ := h
          simp only at h2 h3
          subst h3
          cases e1 with
          | go => exact ⟨rfl, h2, rfl⟩
          | back => exact ⟨rfl, h2, rfl⟩
          | out j => cases hb : Nat.beq j id <;> simp only [hb, cond_true, cond_false] <;> exact ⟨rfl, h2, rfl⟩
    | rf g nt ps sl a b =>
      simp only [stepMF, rfF, opndF_eq, runM, he.opnd, he.keep]
      cases (opnd e' g).bind callee with
      | none => trivial
      | some r =>
        obtain ⟨t, fs, caps⟩ := r
        cases t with
        | yl b => trivial
        | fn f =>
          simp only
          cases o (.fn f) (fs ++ [.yl H.length] ++ caps) (H ++ [some (newRecA nt ps a b (keepE e' sl))]) with
          | none => trivial
          | some r =>
            simp only
            cases pending r.2 H.length with
            | none => trivial
            | some ex => exact ⟨rfl, he, rfl⟩
theorem resOne_sim {T : Tb} {e e' : Env} {H : Heap} (h : EqE e e') (v : ResultVar) : resOne T ⟨e, H⟩ v = resOne T ⟨e', H⟩ v := by
  cases v <;> simp only [resOne, h _]
theorem resAll_sim {T : Tb} {e e' : Env} {H : Heap} (h : EqE e e') : ∀ l : List ResultVar, resAll T ⟨e, H⟩ l = resAll T ⟨e', H⟩ l
  | [] => rfl
  | v :: l => by
    unfold resAll
    rw [resOne_sim h, resAll_sim h l]
noncomputable def runBodyF (C : Ctx) (q : OrcQ) (o : Orc) (n : Nat) (m : MFn) (as : List A) (H : Heap) : Option (A × Heap) :=
  bif Nat.ble as.length m.nt then
    match runMF C.T q o n m.body ⟨argE 0 as, H⟩ with
    | some (ex, st) => match ex with
      | .out _ => none
      | _ => match result C.T st m.res with
        | some a => some (a, st.H)
        | none => none
    | none => none
  else none
theorem runBodyF_eq (C : Ctx) (q : OrcQ) (o : Orc) (n : Nat) (m : MFn) (as : List A) (H : Heap) : runBodyF C q o n m as H = runBody C q o n m as H := by
  unfold runBodyF runBody
  by_cases h : as.length ≤ m.nt
  · rw [if_pos h, Nat.ble_eq_true_of_le h, cond_true]
    have hs := runMF_sim C.T q o n m.body (argE 0 as) (argE 0 as) H (fun _ => rfl)
    revert hs
    generalize runMF C.T q o n m.body ⟨argE 0 as, H⟩ = r
    generalize runM C.T q o n m.body ⟨argE 0 as, H⟩ = r'
    intro hs
    cases r with
    | none =>
      cases r' with
      | none => rfl
      | some x => exact hs.elim
    | some x =>
      cases r' with
      | none => exact hs.elim
      | some y =>
        obtain ⟨e1, s1, H1⟩ := x
        obtain ⟨e2, s2, H2⟩ := y
        obtain ⟨rfl, h2, h3⟩ := hs
        simp only at h2 h3
        subst h3
        have hr : result C.T ⟨s1, H1⟩ m.res = result C.T ⟨s2, H1⟩ m.res := by
          unfold result
          rw [resAll_sim h2]
        cases e1 <;> simp only [hr] <;> rfl
  · rw [if_neg h]
    cases hb : Nat.ble as.length m.nt with
    | true => exact absurd (Nat.le_of_ble_eq_true hb) h
    | false => rfl
noncomputable def runRoundF (T : Tb) (q : OrcQ) (o : Orc) (n : Nat) (b : Nat) (as : List A) (H : Heap) : Option (A × Heap) :=
  match recOf H b with
  | some r =>
    if r.s = 0 ∧ as.length = r.ps.length then
      match runMF T q o n r.a ⟨zipE r.ps as (zipE r.sl r.vs []), H⟩ with
      | some (.go, s1) => match recOf s1.H b with
        | some r1 => if r1.s = 0 then match runMF T q o n r.b ⟨s1.env, s1.H.set b (some (r1.blk 1 r1.p))⟩ with
            | some (ex, s2) => match recOf s2.H b with
              | some r2 => match ex with
                | .go => some (.v (.bool true), s2.H.set b (some (r2.blk 0 0)))
                | ex => some (.v (.bool false), s2.H.set b (some (r2.blk 2 (nOfEx ex))))
              | none => none
            | none => none
          else none
        | none => none
      | _ => none
    else none
  | none => none
theorem runRoundF_eq (T : Tb) (q : OrcQ) (o : Orc) (n : Nat) (b : Nat) (as : List A) (H : Heap) : runRoundF T q o n b as H = runRound T q o n b as H := by
  unfold runRoundF runRound
  cases recOf H b with
  | none => rfl
  | some r =>
    simp only
    split
    · have hs := runMF_sim T q o n r.a (zipE r.ps as (zipE r.sl r.vs [])) (zipE r.ps as (zipE r.sl r.vs [])) H (fun _ => rfl)
      revert hs
      generalize runMF T q o n r.a ⟨zipE r.ps as (zipE r.sl r.vs []), H⟩ = x
      generalize runM T q o n r.a ⟨zipE r.ps as (zipE r.sl r.vs []), H⟩ = y
      intro hs
      cases x with
      | none =>
        cases y with
        | none => rfl
        | some y => exact hs.elim
      | some x =>
        cases y with
        | none => exact hs.elim
        | some y =>
          obtain ⟨e1, s1, H1⟩ := x
          obtain ⟨e2, s2, H2⟩ := y
          obtain ⟨rfl, h2, h3⟩ := hs
          simp only at h2 h3
          subst h3
          cases e1 with
          | out id => rfl
          | back => rfl
          | go =>
            simp only
            cases recOf H1 b with
            | none => rfl
            | some r1 =>
              simp only
              split
              · have hs := runMF_sim T q o n r.b s1 s2 (H1.set b (some (r1.blk 1 r1.p))) h2
                revert hs
                generalize runMF T q o n r.b ⟨s1, H1.set b (some (r1.blk 1 r1.p))⟩ = x
                generalize runM T q o n r.b ⟨s2, H1.set b (some (r1.blk 1 r1.p))⟩ = y
                intro hs
                cases x with
                | none =>
                  cases y with
                  | none => rfl
                  | some y => exact hs.elim
                | some x =>
                  cases y with
                  | none => exact hs.elim
                  | some y =>
                    obtain ⟨e3, s3, H3⟩ := x
                    obtain ⟨e4, s4, H4⟩ := y
                    obtain ⟨rfl, h4, h5⟩ := hs
                    simp only at h4 h5
                    subst h5
                    rfl
              · rfl
    · rfl
noncomputable def passF (C : Ctx) (f : FuncId) : Bool := isPass C f
/-- Both kinds of calls at once: what a level gives, out of the one below. -/
noncomputable def levelF (C : Ctx) (n : Nat) (qo : OrcQ × Orc) : OrcQ × Orc :=
  (fun f as => match C.X f as with
    | some r => some r
    | none => match C.B f with
      | none => none
      | some m => match runBodyF C qo.1 qo.2 n m as [] with
        | some (a, H) => holdR m.mode H a
        | none => none,
   fun g as H => match g with
    | .fn f => match C.XO f with
      | some g => g as H
      | none => bif isPass C f then
          match C.B f with
          | none => none
          | some m => runBodyF C qo.1 qo.2 n m as H
        else bif isTrim C f then
          match C.B f with
          | none => none
          | some m => trimR H.length (runBodyF C qo.1 qo.2 n m as H)
        else match lendL H as with
          | some as' => match qo.1 f as' with
            | some r => if (as.all shut) || flat r then some (r, H) else none
            | none => none
          | none => none
    | .yl b => runRoundF C.T qo.1 qo.2 n b as H)
noncomputable def callsF (C : Ctx) (n : Nat) : OrcQ × Orc := Nat.rec (fun _ _ => none, fun _ _ _ => none) (fun n qo => levelF C n qo) n
theorem callsF_eq (C : Ctx) : ∀ n, callsF C n = (callQ C n, callQ.callO C n)
  | 0 => by
    refine Prod.ext ?_ ?_
    · funext f as
      exact (by simp [callQ] : (none : Option A) = callQ C 0 f as)
    · funext g as H
      exact (by cases g <;> simp [callQ.callO] : (none : Option (A × Heap)) = callQ.callO C 0 g as H)
  | n + 1 => by
    show levelF C n (callsF C n) = _
    rw [callsF_eq C n]
    unfold levelF
    refine Prod.ext ?_ ?_
    · funext f as
      simp only [callQ, runBodyF_eq]
      all_goals rfl
    · funext g as H
      cases g with
      | fn f =>
        simp only [callQ.callO, runBodyF_eq]
        all_goals rfl
      | yl b => simp only [callQ.callO, runRoundF_eq]
/-- A closed call, by the kernel. -/
theorem evQ_fast {C : Ctx} {f : FuncId} {as : List A} {r : A} (n : Nat) (h : (callsF C n).1 f as = some r) : EvQ C f as r := ⟨n, by rw [callsF_eq] at h; exact h⟩
end Go.Proofs.YtijpomemobgddaaGreatDoor.Ev
