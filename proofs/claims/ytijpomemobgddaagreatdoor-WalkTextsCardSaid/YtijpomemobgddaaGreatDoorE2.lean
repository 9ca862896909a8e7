/- The evaluator: operations, statements and calls, by value. -/
import Derived.Test.YtijpomemobgddaaGreatDoorE1
set_option linter.unusedSimpArgs false
set_option linter.unusedVariables false
namespace Go.Proofs.YtijpomemobgddaaGreatDoor.Ev
open Go Go.RowKit

/-- What the evaluator knows of a type. -/
inductive K where
  | bool
  | int (k : IntKind)
  | str
  | ptr (e : TypeId)
  | slice (e : TypeId)
  | array (n : Nat) (e : TypeId)
  | struct (fs : List (TypeId × Nat × Bool))
  | map (k e : TypeId)
  | func
  | other
structure Ty where
  k : K
  size : Nat
  bytes : Nat
  zero : List Value
  plain : Bool
/-- Types, and the contents of the program's constant tables. -/
structure Tb where
  ty : TypeId → Option Ty
  gl : GD
instance : CoeFun Tb fun _ => TypeId → Option Ty := ⟨Tb.ty⟩
def K.agg : K → Bool
  | .struct _ | .array _ _ => true
  | _ => false
def kOf : TypeDesc → K
  | .bool => .bool
  | .int k => .int k
  | .string => .str
  | .pointer e => .ptr e
  | .slice e => .slice e
  | .array n e => .array n e
  | .struct fs => .struct (fs.toList.map fun f => (f.type, f.offset, f.name != "_"))
  | .map k e => .map k e
  | .func _ _ _ => .func
  | _ => .other
def zeroOf (k : K) : Value → Option (List Value)
  | .agg cs => if k.agg then some cs.toList else none
  | x => if k.agg then none else some [x]
/-- Types, out of the program. -/
def tyOf (P : Program) (t : TypeId) : Option Ty :=
  match P.info? t, P.underlying t with
  | some i, some d =>
    match i.zero.bind (zeroOf (kOf d)) with
    | some z => some ⟨kOf d, i.size, i.bytes, z, !P.eqGuardType P.depth t && !P.stoodInHeld t⟩
    | none => none
  | _, _ => none

/-- How a function is called: 'shut': with values, its answer held; 'norm': so, and an empty slice is no more than empty; 'pass': in the caller's live blocks; 'trim': so, and its own blocks are let go. -/
inductive Mode where
  | shut | pass | norm | trim
structure MFn where
  nt : Nat
  res : List ResultVar
  body : M
  mode : Mode

/-- Lookups by binary keys. -/
inductive Tr (α : Type) where
  | nil
  | node (x : Option α) (l r : Tr α)
def Tr.get {α : Type} : Tr α → Nat → Nat → Option α
  | _, 0, _ => none
  | .nil, _ + 1, _ => none
  | .node x l r, d + 1, n => bif Nat.beq n 0 then x else bif Nat.beq (n % 2) 0 then r.get d (n / 2) else l.get d (n / 2)

abbrev Env := List (Nat × A)
def look : Env → Nat → Option A
  | [], _ => none
  | (s, x) :: l, t => bif Nat.beq s t then some x else look l t
/-- What stays. -/
def keepE (e : Env) : List Nat → Env
  | [] => []
  | s :: l => match look e s with
    | some x => (s, x) :: keepE e l
    | none => keepE e l
def put (e : Env) (d : Option Nat) (x : A) : Env := match d with
  | some d => (d, x) :: e
  | none => e

def ofV : Value → A
  | .agg xs => .agg (xs.toList.map .v)
  | x => .v x
def opnd (e : Env) : Operand → Option A
  | .tmp t => look e t
  | .const x => some (ofV x)
  | .func f => some (.v (.func (.func f) #[] #[]))
  | .global g => some (.v (.pointer (some ⟨g, 0, none⟩)))
def opnds (e : Env) : List Operand → Option (List A)
  | [] => some []
  | x :: l => match opnd e x, opnds e l with
    | some a, some as => some (a :: as)
    | _, _ => none
def cellsA : A → List A
  | .agg cs => cs
  | .v (.agg xs) => xs.toList.map .v
  | x => [x]
/-- A value of one cell. -/
def one : A → Bool
  | .v (.agg _) | .v (.tuple _) | .agg _ | .tup _ => false
  | _ => true
def ones : List A → Bool
  | [] => true
  | x :: l => one x && ones l

/-- Two operands, both known. -/
def binV (op : BinOp) : Value → Value → Option Value
  | .int k a, .int k' b =>
    match op with
    | .shl => if b < 0 then none else some (.int k (k.wrap (a * 2 ^ (min b.toNat k.bits))))
    | .shr => if b < 0 then none else some (.int k (a.fdiv (2 ^ (min b.toNat k.bits))))
    | _ => if k = k' then
      match op with
      | .add => some (.int k (k.wrap (a + b)))
      | .sub => some (.int k (k.wrap (a - b)))
      | .mul => some (.int k (k.wrap (a * b)))
      | .quo => if b = 0 then none else some (.int k (k.wrap (a.tdiv b)))
      | .rem => if b = 0 then none else some (.int k (a.tmod b))
      | .and => some (.int k (k.wrap (BitVec.ofInt k.bits a &&& BitVec.ofInt k.bits b).toNat))
      | .or => some (.int k (k.wrap (BitVec.ofInt k.bits a ||| BitVec.ofInt k.bits b).toNat))
      | .xor => some (.int k (k.wrap (BitVec.ofInt k.bits a ^^^ BitVec.ofInt k.bits b).toNat))
      | .andNot => some (.int k (k.wrap (BitVec.ofInt k.bits a &&& ~~~ BitVec.ofInt k.bits b).toNat))
      | .eql => some (.bool (a == b))
      | .neq => some (.bool (a != b))
      | .lss => some (.bool (a < b))
      | .leq => some (.bool (a ≤ b))
      | .gtr => some (.bool (a > b))
      | .geq => some (.bool (a ≥ b))
      | _ => none
      else none
  | .string a, .string b =>
    match op with
    | .add => if ((a.size + b.size : Nat) : Int) > IntKind.i64.max then none else some (.string (a ++ b))
    | .eql => some (.bool (a.toList == b.toList))
    | .neq => some (.bool !(a.toList == b.toList))
    | .lss => some (.bool (Op.bytesLess a.toList b.toList))
    | .leq => some (.bool (Op.bytesLess a.toList b.toList || (a.toList == b.toList)))
    | .gtr => some (.bool !(Op.bytesLess a.toList b.toList || (a.toList == b.toList)))
    | .geq => some (.bool !(Op.bytesLess a.toList b.toList))
    | _ => none
  | _, _ => none
def eqFs (T : Tb) (eq : TypeId → List A → List A → Option Bool) : List (TypeId × Nat × Bool) → List A → List A → Option Bool
  | [], _, _ => some true
  | (t, off, named) :: fs, xs, ys =>
    match T t with
    | none => none
    | some ty =>
      if named then
        if off + ty.size ≤ xs.length ∧ off + ty.size ≤ ys.length ∧ 0 < ty.size then
          match eq t ((xs.drop off).take ty.size) ((ys.drop off).take ty.size), eqFs T eq fs xs ys with
          | some a, some b => some (a && b)
          | _, _ => none
        else none
      else eqFs T eq fs xs ys
def eqN (eq : TypeId → List A → List A → Option Bool) (e : TypeId) (sz : Nat) : Nat → Nat → List A → List A → Option Bool
  | 0, _, _, _ => some true
  | n + 1, i, xs, ys =>
    if i * sz + sz ≤ xs.length ∧ i * sz + sz ≤ ys.length ∧ 0 < sz then
      match eq e ((xs.drop (i * sz)).take sz) ((ys.drop (i * sz)).take sz), eqN eq e sz n (i + 1) xs ys with
      | some a, some b => some (a && b)
      | _, _ => none
    else none
/-- Are the values alike, read at a type? -/
def eqT (T : Tb) : Nat → TypeId → List A → List A → Option Bool
  | 0, _, _, _ => none
  | d + 1, t, xs, ys =>
    match T t with
    | none => none
    | some ty =>
      match ty.k with
      | .bool => match xs, ys with
        | [.v (.bool a)], [.v (.bool b)] => some (a == b)
        | _, _ => none
      | .int _ => match xs, ys with
        | [.v (.int k a)], [.v (.int k' b)] => if k = k' then some (a == b) else none
        | _, _ => none
      | .str => match xs, ys with
        | [.v (.string a)], [.v (.string b)] => some (a == b)
        | _, _ => none
      | .struct fs => if ty.plain then eqFs T (eqT T d) fs xs ys else none
      | .array n e => match T e with
        | some te => eqN (eqT T d) e te.size n 0 xs ys
        | none => none
      | _ => none
def nilEq : K → A → A → Option Bool
  | .slice _, a, b => match a, b with
    | .ref _ _ _ _, .v (.slice none _ _) => some false
    | .v (.slice none _ _), .ref _ _ _ _ => some false
    | .sl (_ + 1) _, .v (.slice none _ _) => some false
    | .v (.slice none _ _), .sl (_ + 1) _ => some false
    | .v (.slice none _ _), .v (.slice none _ _) => some true
    | _, _ => none
  | .ptr _, a, b => match a, b with
    | .ptr _ _, .v (.pointer none) => some false
    | .v (.pointer none), .ptr _ _ => some false
    | .fp _, .v (.pointer none) => some false
    | .v (.pointer none), .fp _ => some false
    | .v (.pointer none), .v (.pointer none) => some true
    | _, _ => none
  | .func, a, b => match a, b with
    | .clo _ _ _, .v .nilFunc => some false
    | .v .nilFunc, .clo _ _ _ => some false
    | .v (.func _ _ _), .v .nilFunc => some false
    | .v .nilFunc, .v (.func _ _ _) => some false
    | .v .nilFunc, .v .nilFunc => some true
    | _, _ => none
  | _, _, _ => none
def sameA (T : Tb) (t : TypeId) (ty : Ty) (a b : A) : Option Bool :=
  match nilEq ty.k a b with
  | some r => some r
  | none => match a, b with
    | .agg xs, .agg ys => if ty.k.agg && ty.plain then eqT T 20 t xs ys else none
    | .v (.bool x), .v (.bool y) => match ty.k with
      | .bool => some (x == y)
      | _ => none
    | _, _ => none
def eqOp (T : Tb) (op : BinOp) (t : TypeId) (a b : A) : Option A :=
  match T t with
  | none => none
  | some ty => match op, sameA T t ty a b with
    | .eql, some r => some (.v (.bool r))
    | .neq, some r => some (.v (.bool !r))
    | _, _ => none
/-- A part of a value of several cells. -/
def partA (ty : Ty) (cs : List A) (off : Nat) : Option A :=
  if off + ty.size ≤ cs.length then
    if ty.k.agg then some (.agg ((cs.drop off).take ty.size)) else if ty.size = 1 then cs[off]? else none
  else none
def mapO (f : A → Option A) : List A → Option (List A)
  | [] => some []
  | c :: cs => match f c, mapO f cs with
    | some x, some xs => some (x :: xs)
    | _, _ => none
/-- A slice or a pointer of a live block, held as a value. -/
def freeze (H : Heap) : Nat → A → Option A
  | 0, _ => none
  | n + 1, a => match a with
    | .v x => some (.v x)
    | .agg cs => (mapO (freeze H n) cs).map .agg
    | .tup cs => (mapO (freeze H n) cs).map .tup
    | .clo f fs caps => match mapO (freeze H n) fs, mapO (freeze H n) caps with
      | some xs, some ys => some (.clo f xs ys)
      | _, _ => none
    | .yl _ => none
    | .lrec _ _ _ _ _ => none
    | .it _ => none
    | .its _ _ => none
    | .sl len cs => some (.sl len cs)
    | .fp cs => some (.fp cs)
    | .mf cs => some (.mf cs)
    | .mp b => match H[b]? with
      | some (some k) => (mapO (freeze H n) k.cs).map .mf
      | _ => none
    | .ptr b off => match H[b]? with
      | some (some k) => (mapO (freeze H n) (k.cs.drop off)).map .fp
      | _ => none
    | .ref b off len sz => match H[b]? with
      | some (some k) => if off + len * sz ≤ k.cs.length then (mapO (freeze H n) ((k.cs.drop off).take (len * sz))).map (.sl len) else none
      | _ => none
mutual
/-- A nil slice, as an empty one. -/
def nrm : A → A
  | .v x => match x with
    | .slice none 0 0 => .sl 0 []
    | x => .v x
  | .agg l => .agg (nrmL l)
  | .tup l => .tup (nrmL l)
  | .sl n l => .sl n (nrmL l)
  | .fp l => .fp (nrmL l)
  | .mf l => .mf (nrmL l)
  | .clo f l r => .clo f (nrmL l) (nrmL r)
  | .yl b => .yl b
  | .lrec nt ps sl a b => .lrec nt ps sl a b
  | .it b => .it b
  | .its s p => .its s p
  | .ptr b o => .ptr b o
  | .ref b o n z => .ref b o n z
  | .mp b => .mp b
def nrmL : List A → List A
  | [] => []
  | x :: l => nrm x :: nrmL l
end
def holdR (md : Mode) (H : Heap) (a : A) : Option A := match md with
  | .norm => (freeze H 20 a).map nrm
  | _ => freeze H 20 a
/-- No way into a live block. -/
def shut : A → Bool
  | .v _ | .sl _ _ | .fp _ | .mf _ => true
  | .agg cs | .tup cs => shutL cs
  | .clo _ fs caps => shutL fs && shutL caps
  | .ptr _ _ | .ref _ _ _ _ | .mp _ | .yl _ | .lrec _ _ _ _ _ | .it _ | .its _ _ => false
where
  shutL : List A → Bool
    | [] => true
    | c :: cs => shut c && shutL cs
/-- No memory at all. -/
def flat : A → Bool
  | .v _ => true
  | .agg cs | .tup cs => flatL cs
  | .clo _ fs caps => flatL fs && flatL caps
  | .sl n cs => Nat.beq n 0 && cs.isEmpty
  | _ => false
where
  flatL : List A → Bool
    | [] => true
    | c :: cs => flat c && flatL cs
def lendL (H : Heap) : List A → Option (List A)
  | [] => some []
  | a :: l => match freeze H 20 a, lendL H l with
    | some x, some xs => some (x :: xs)
    | _, _ => none
def readL (G : Nat → Option (List Value)) (H : Heap) : A → Option (List A)
  | .v (.pointer (some ⟨g, off, none⟩)) => match G g with
    | some xs => some ((xs.drop off).map .v)
    | none => none
  | .ptr b off => match H[b]? with
    | some (some k) => some (k.cs.drop off)
    | _ => none
  | .fp cs => some cs
  | _ => none
def fillA (place : Nat → Option (Nat × Nat)) (cs : List A) : List (Nat × A) → Option (List A)
  | [] => some cs
  | (i, x) :: rest =>
    match place i with
    | none => none
    | some (off, size) =>
      if (cellsA x).length = size ∧ off + size ≤ cs.length then fillA place (cs.take off ++ cellsA x ++ cs.drop (off + size)) rest else none
def placesOf (T : Tb) : List (TypeId × Nat × Bool) → Option (List (Nat × Nat))
  | [] => some []
  | (t, off, _) :: fs => match T t, placesOf T fs with
    | some ty, some l => some ((off, ty.size) :: l)
    | _, _ => none
def partsA (e : Env) : List (Nat × Operand) → Option (List (Nat × A))
  | [] => some []
  | (i, x) :: l => match opnd e x, partsA e l with
    | some a, some as => some ((i, a) :: as)
    | _, _ => none
def zeros (z : List Value) : Nat → List A
  | 0 => []
  | n + 1 => z.map .v ++ zeros z n
/-- The bounds of a slice expression. -/
def bnd (len : Nat) : Option A → Nat → Option Nat
  | none, d => some d
  | some (.v (.int _ i)), _ => if 0 ≤ i ∧ i ≤ len then some i.toNat else none
  | some _, _ => none
def bnds (len : Nat) (lo hi : Option A) : Option (Nat × Nat) :=
  match bnd len hi len with
  | none => none
  | some h => match bnd h lo 0 with
    | some l => some (l, h)
    | none => none
def opndO (e : Env) : Option Operand → Option (Option A)
  | none => some none
  | some x => (opnd e x).map some

/-- A call that makes nothing of the caller's its own: function, arguments. -/
abbrev OrcQ := FuncId → List A → Option A
/-- What is called: a function, or the yield of a loop whose record is a live block. -/
inductive Tgt where
  | fn (f : FuncId)
  | yl (b : Nat)
/-- Any call. -/
abbrev Orc := Tgt → List A → Heap → Option (A × Heap)

def callee : A → Option (Tgt × List A × List A)
  | .v (.func (.func f) fs caps) => if fs.isEmpty && caps.isEmpty then some (.fn f, [], []) else none
  | .clo f fs caps => some (.fn f, fs, caps)
  | .yl b => some (.yl b, [], [])
  | _ => none

/-- Keys that are looked for at once. -/
def isKey : K → Value → Bool
  | .bool, .bool _ => true
  | .int k, .int k' _ => decide (k' = k)
  | .str, .string _ => true
  | _, _ => false
def keySame : Value → Value → Bool
  | .bool a, .bool b => a == b
  | .int _ a, .int _ b => a == b
  | .string a, .string b => a == b
  | _, _ => false
/-- A key among a map's entries: its number and what is there. -/
def findA (kd : K) (key : Value) : List A → Nat → Option (Option (Nat × A))
  | [], _ => some none
  | .v x :: a :: l, i => if isKey kd x then (if keySame key x then some (some (i, a)) else findA kd key l (i + 1)) else none
  | _, _ => none
def entriesA (H : Heap) : A → Option (List A)
  | .mf cs => some cs
  | .v (.map none) => some []
  | .mp b => match H[b]? with
    | some (some k) => some k.cs
    | _ => none
  | _ => none
def zeroA (ty : Ty) : Option A := if ty.k.agg then some (.agg (ty.zero.map .v)) else match ty.zero with
  | [z] => some (.v z)
  | _ => none
/-- A key of several cells that are integers. -/
def intsK (k : IntKind) : List Value → Bool
  | [] => true
  | .int k' _ :: l => decide (k' = k) && intsK k l
  | _ => false
def keyOk (T : Tb) (tk : Ty) (x : Value) : Bool := isKey tk.k x || match tk.k, x with
  | .array n el, .agg xs => match T el with
    | some te => match te.k with
      | .int k => Nat.beq te.size 1 && (Nat.beq xs.size n && intsK k xs.toList)
      | _ => false
    | none => false
  | _, _ => false
def allV : List A → Option (List Value)
  | [] => some []
  | .v x :: l => (allV l).map fun r => x :: r
  | _ => none
def keyA : A → Option Value
  | .v x => some x
  | .agg cs => (allV cs).map fun r => .agg r.toArray
  | _ => none
/-- A key of several cells among a map's entries. -/
def findB (T : Tb) (kt : TypeId) (xs : List A) : List A → Nat → Option (Option (Nat × A))
  | [], _ => some none
  | .v (.agg ys) :: a :: l, i => match eqT T 20 kt xs (ys.toList.map .v) with
    | some true => some (some (i, a))
    | some false => findB T kt xs l (i + 1)
    | none => none
  | _, _ => none
def findK (T : Tb) (kt : TypeId) (tk : Ty) (key : Value) (cs : List A) : Option (Option (Nat × A)) :=
  bif isKey tk.k key then findA tk.k key cs 0
  else bif keyOk T tk key then match key with
    | .agg xs => findB T kt (xs.toList.map .v) cs 0
    | _ => none
  else none
/-- The bytes that cells hold. -/
def bytesOf : List A → Option (List UInt8)
  | [] => some []
  | .v (.int .u8 x) :: l => if 0 ≤ x ∧ x < 256 then (bytesOf l).map fun r => UInt8.ofNat x.toNat :: r else none
  | _ => none
/-- The string of the bytes of a live block. -/
def convB (T : Tb) (H : Heap) (k k' : K) (b off len sz : Nat) : Option A := match k, k', H[b]? with
  | .slice el, .str, some (some blk) => match T el, bytesOf ((blk.cs.drop off).take len) with
    | some te, some l => match te.k with
      | .int .u8 => if sz = 1 ∧ l.length = len then some (.v (.string ⟨l.toArray⟩)) else none
      | _ => none
    | _, _ => none
  | _, _, _ => none
/-- Operations that leave the live blocks alone. -/
def quietOp (T : Tb) (e : Env) (H : Heap) : Op → Option A
  | .move x | .assign x => opnd e x
  | .pick c a b => match opnd e c, opnd e a, opnd e b with
    | some (.v (.bool t)), some x, some y => some (bif t then x else y)
    | some (.v (.bool true)), some x, none => some x
    | some (.v (.bool false)), none, some y => some y
    | _, _, _ => none
  | .load t x => match (opnd e x).bind (readL T.gl.tab H), T t with
    | some cs, some ty => partA ty cs 0
    | _, _ => none
  | .nilCheck x => match opnd e x with
    | some (.ptr b o) => some (.ptr b o)
    | some (.fp cs) => some (.fp cs)
    | some (.v (.pointer (some a))) => some (.v (.pointer (some a)))
    | some (.clo f a b) => some (.clo f a b)
    | some (.v (.func (.func f) a b)) => some (.v (.func (.func f) a b))
    | _ => none
  | .binOp op t x y _ => match opnd e x, opnd e y with
    | some (.v a), some (.v b) => match binV op a b with
      | some r => some (.v r)
      | none => eqOp T op t (.v a) (.v b)
    | some a, some b => eqOp T op t a b
    | _, _ => none
  | .unOp op _ x => match op, opnd e x with
    | .neg, some (.v (.int k n)) => some (.v (.int k (k.wrap (0 - n))))
    | .xor, some (.v (.int k n)) => some (.v (.int k (k.wrap (BitVec.ofInt k.bits (if k.signed then -1 else k.max) ^^^ BitVec.ofInt k.bits n).toNat)))
    | .not, some (.v (.bool b)) => some (.v (.bool !b))
    | _, _ => none
  | .convert src dst x => match T src, T dst, opnd e x with
    | some _, some ty, some (.v (.int _ n)) => match ty.k with
      | .int k => some (.v (.int k (k.wrap n)))
      | _ => none
    | some _, some ty, some (.v (.string s)) => match ty.k with
      | .str => some (.v (.string s))
      | _ => none
    | some sty, some ty, some (.ref b off len sz) => bif Nat.beq dst 9 then convB T H sty.k ty.k b off len sz else none
    | _, _, _ => none
  | .build t parts => match T t, partsA e parts.toList with
    | some ty, some ps =>
      match ty.k with
      | .struct fs => match placesOf T fs with
        | some l => (fillA (fun i => l[i]?) (ty.zero.map .v) ps).map .agg
        | none => none
      | .array _ el => match T el with
        | some te => (fillA (fun i => some (i * te.size, te.size)) (ty.zero.map .v) ps).map .agg
        | none => none
      | _ => none
    | _, _ => none
  | .fieldAddr t x f => match T t, opnd e x with
    | some ty, some a => match ty.k with
      | .struct fs => match fs[f]? with
        | some (ft, off, _) => match T ft with
          | some fty => if 0 < fty.size then
              match a with
              | .ptr b o => some (.ptr b (o + off))
              | .fp cs => some (.fp (cs.drop off))
              | _ => none
            else none
          | none => none
        | none => none
      | _ => none
    | _, _ => none
  | .field t x f => match T t, opnd e x with
    | some ty, some (.agg cs) => match ty.k with
      | .struct fs => match fs[f]? with
        | some (ft, off, _) => match T ft with
          | some fty => partA fty cs off
          | none => none
        | none => none
      | _ => none
    | _, _ => none
  | .indexAddr t x i => match T t, opnd e x, opnd e i with
    | some ty, some a, some (.v (.int _ n)) => match ty.k with
      | .slice el => match T el with
        | some te => match a with
          | .ref b off len sz => if 0 ≤ n ∧ n < len ∧ sz = te.size then some (.ptr b (off + n.toNat * te.size)) else none
          | .sl len cs => if 0 ≤ n ∧ n < len then some (.fp (cs.drop (n.toNat * te.size))) else none
          | _ => none
        | none => none
      | .array len el => match T el with
        | some te => if 0 ≤ n ∧ n < len then
            match a with
            | .ptr b off => some (.ptr b (off + n.toNat * te.size))
            | .v (.pointer (some ⟨g, off, none⟩)) => some (.v (.pointer (some ⟨g, off + n.toNat * te.size, none⟩)))
            | .fp cs => some (.fp (cs.drop (n.toNat * te.size)))
            | _ => none
          else none
        | none => none
      | _ => none
    | _, _, _ => none
  | .index t x i => match T t, opnd e x, opnd e i with
    | some ty, some a, some (.v (.int _ n)) => match ty.k with
      | .array len el => match T el, a with
        | some te, .agg cs => if 0 ≤ n ∧ n < len then partA te cs (n.toNat * te.size) else none
        | _, _ => none
      | .str => match a with
        | .v (.string s) => if 0 ≤ n then (s[n.toNat]?).map fun b => .v (.int .u8 b.toNat) else none
        | _ => none
      | _ => none
    | _, _, _ => none
  | .slice t x lo hi mx => match mx, T t, opnd e x, opndO e lo, opndO e hi with
    | none, some ty, some a, some l, some h => match ty.k with
      | .str => match a with
        | .v (.string s) => match bnds s.size l h with
          | some (i, j) => some (.v (.string (s.extract i j)))
          | none => none
        | _ => none
      | .slice el => match T el with
        | some te => match a with
          | .ref b off len sz => match bnds len l h with
            | some (i, j) => if sz = te.size then if i < len then some (.ref b (off + i * sz) (j - i) sz) else some (.sl 0 []) else none
            | none => none
          | .sl len cs => match bnds len l h with
            | some (i, j) => if cs.length = len * te.size then some (.sl (j - i) ((cs.drop (i * te.size)).take ((j - i) * te.size))) else none
            | none => none
          | .v (.slice none 0 0) => match bnds 0 l h with
            | some _ => some (.v (.slice none 0 0))
            | none => none
          | _ => none
        | none => none
      | .array n el => match T el, bnds n l h with
        | some te, some (i, j) => match a with
          | .fp cs => if n * te.size ≤ cs.length then some (.sl (j - i) ((cs.drop (i * te.size)).take ((j - i) * te.size))) else none
          | .ptr b off => match H[b]? with
            | some (some k) => if k.whole && Nat.ble (off + n * te.size) k.cs.length && Nat.ble n maxLen then if i < n then some (.ref b (off + i * te.size) (j - i) te.size) else some (.sl 0 []) else none
            | _ => none
          | _ => none
        | _, _ => none
      | _ => none
    | _, _, _, _, _ => none
  | .extract x i => match opnd e x with
    | some (.tup cs) => cs[i]?
    | some (.v (.tuple xs)) => (xs[i]?).map ofV
    | _ => none
  | .lookup t m k ok => match T t, opnd e m, (opnd e k).bind keyA with
    | some ty, some mv, some key => match ty.k with
      | .map kt et => match T kt, T et, entriesA H mv with
        | some tk, some te, some es => match findK T kt tk key es with
            | some (some (_, a)) => some (if ok then .tup [a, .v (.bool true)] else a)
            | some none => match zeroA te with
              | some z => some (if ok then .tup [z, .v (.bool false)] else z)
              | none => none
            | none => none
        | _, _, _ => none
      | _ => none
    | _, _, _ => none
  | .makeFunc fn first caps => match fn, opnds e first.toList, opnds e caps.toList with
    | .func f, some xs, some ys => some (.clo f xs ys)
    | _, _, _ => none
  | .call c => match c.callee with
    | .builtin .len => match opnds e c.args.toList, (c.argTypes[0]?).bind T.ty with
      | some [a], some ty => match ty.k with
        | .str => match a with
          | .v (.string s) => some (.v (.int .i64 s.size))
          | _ => none
        | .array n _ => some (.v (.int .i64 n))
        | .slice _ => match a with
          | .ref _ _ len _ => some (.v (.int .i64 len))
          | .sl len _ => some (.v (.int .i64 len))
          | .v (.slice none n _) => some (.v (.int .i64 n))
          | _ => none
        | _ => none
      | _, _ => none
    | .builtin .min => match opnds e c.args.toList with
      | some (x :: l) => minA false x l
      | _ => none
    | .builtin .cap => match opnds e c.args.toList, (c.argTypes[0]?).bind T.ty with
      | some [.v (.slice none _ n)], some ty => match ty.k with
        | .slice _ => some (.v (.int .i64 n))
        | _ => none
      | _, _ => none
    | .builtin .unsafeSliceData => match opnds e c.args.toList with
      | some [.v (.slice none _ _)] => some (.v (.pointer none))
      | some [.ref b off (_ + 1) _] => some (.ptr b off)
      | _ => none
    | .builtin .max => match opnds e c.args.toList with
      | some (x :: l) => minA true x l
      | _ => none
    | _ => none
  | _ => none
where
  minA (mx : Bool) (x : A) : List A → Option A
    | [] => some x
    | y :: l => match x, y with
      | .v (.int k a), .v (.int _ b) => minA mx (.v (.int k (bif mx then (if b > a then b else a) else (if b < a then b else a)))) l
      | _, _ => none

/-- The target of a call, with its arguments. -/
def calls (e : Env) : Op → Option (Tgt × List A)
  | .call c => match c.callee with
    | .value f => match (opnd e f).bind callee, opnds e c.args.toList with
      | some (g, fs, caps), some as => some (g, fs ++ as ++ caps)
      | _, _ => none
    | _ => none
  | _ => none

/-- The literal slice's cells. -/
def litCells (T : Tb) (e : Env) (t : TypeId) (len : Nat) (parts : Array (Nat × Operand)) : Option (TypeId × Nat × List A) :=
  match T t with
  | some ty => match ty.k with
    | .slice el => match T el, partsA e parts.toList with
      | some te, some ps => if len * te.size ≤ 2 ^ 24 ∧ 0 < te.size ∧ len ≤ maxLen ∧ te.zero.length = te.size then
          (fillA (fun i => some (i * te.size, te.size)) (zeros te.zero len) ps).map fun cs => (el, te.size, cs)
        else none
      | _, _ => none
    | _ => none
  | none => none

/-- An entry laid into a map that is a live block. -/
def putMap (T : Tb) (e : Env) (H : Heap) (t : TypeId) (m k v : Operand) : Option (A × Heap) :=
  match T t, opnd e m, opnd e k, opnd e v with
  | some ty, some (.mp b), some (.v key), some a => match ty.k, H[b]? with
    | .map kt _, some (some blk) => match T kt with
      | some tk => if isKey tk.k key then match findA tk.k key blk.cs 0 with
          | some none => some (.v undef, H.set b (some ⟨blk.e, blk.cs ++ [.v key, a], blk.whole⟩))
          | some (some (i, _)) => some (.v undef, H.set b (some ⟨blk.e, blk.cs.set (2 * i + 1) a, blk.whole⟩))
          | none => none
        else none
      | none => none
    | _, _ => none
  | _, _, _, _ => none
/-- A map's entry, made if it was not there: what it holds, its number. -/
def entryA (T : Tb) (e : Env) (H : Heap) (t : TypeId) (m k : Operand) : Option (A × Heap) :=
  match T t, opnd e m, (opnd e k).bind keyA with
  | some ty, some (.mp b), some key => match ty.k, H[b]? with
    | .map kt et, some (some blk) => match T kt, (T et).bind zeroA with
      | some tk, some z => match blk.cs with
        | [] => if keyOk T tk key then some (.tup [z, .v (.int .i64 0)], H.set b (some ⟨blk.e, [.v key, z], blk.whole⟩)) else none
        | _ :: _ => if isKey tk.k key then match findA tk.k key blk.cs 0 with
          | some none => some (.tup [z, .v (.int .i64 (blk.cs.length / 2 : Nat))], H.set b (some ⟨blk.e, blk.cs ++ [.v key, z], blk.whole⟩))
          | some (some (i, a)) => some (.tup [a, .v (.int .i64 i)], H.set b (some blk))
          | none => none
          else none
      | _, _ => none
    | _, _ => none
  | _, _, _ => none
def storeE (e : Env) (H : Heap) (m s x : Operand) : Option (A × Heap) :=
  match opnd e m, opnd e s, opnd e x with
  | some (.mp b), some (.v (.int _ i)), some a => match H[b]? with
    | some (some blk) => if 0 ≤ i ∧ 2 * i.toNat + 1 < blk.cs.length then some (.v undef, H.set b (some ⟨blk.e, blk.cs.set (2 * i.toNat + 1) a, blk.whole⟩)) else none
    | _ => none
  | _, _, _ => none
/-- Bytes, as cells. -/
def bytesA (l : List UInt8) : List A := l.map fun b => .v (.int .u8 b.toNat)
/-- The string over a row of bytes; the row is let go. -/
def strOf (T : Tb) (H : Heap) (pt : TypeId) (p : A) (n : Int) : Option (A × Heap) :=
  match p with
  | .v (.pointer none) => if n = 0 then some (.v (.string .empty), H) else none
  | .ptr b 0 => match T pt, H[b]? with
    | some ty, some (some k) => match ty.k with
      | .ptr el => match T el, bytesOf (k.cs.take n.toNat) with
        | some te, some l => if te.size = 1 ∧ k.e = el ∧ 0 < n ∧ l.length = n.toNat ∧ l.length ≤ maxLen then some (.v (.string ⟨l.toArray⟩), H.set b none) else none
        | _, _ => none
      | _ => none
    | _, _ => none
  | _ => none
/-- The next letter (of one byte) of a string that is ranged over. -/
def nextA (e : Env) (H : Heap) (x : Operand) : Option (A × Heap) :=
  match opnd e x with
  | some (.it b) => match H[b]? with
    | some (some k) => match k.cs with
      | [.its s p] => match s[p]? with
        | some u => bif Nat.blt u.toNat 128 then some (.tup [.v (.bool true), .v (.int .i64 p), .v (.int .i32 u.toNat)], H.set b (some ⟨0, [.its s (p + 1)], true⟩)) else none
        | none => some (.tup [.v (.bool false)], H)
      | _ => none
    | _ => none
  | _ => none
/-- Operations on live blocks. -/
def loudOp (T : Tb) (e : Env) (H : Heap) : Op → Option (A × Heap)
  | .alloc t => match T t with
    | some ty => some (.ptr H.length 0, H ++ [some ⟨t, ty.zero.map .v, true⟩])
    | none => none
  | .range t x => match T t, opnd e x with
    | some ty, some (.v (.string s)) => match ty.k with
      | .str => some (.it H.length, H ++ [some ⟨0, [.its s 0], true⟩])
      | _ => none
    | _, _ => none
  | .next x str => bif str then nextA e H x else none
  | .insert t m k v => putMap T e H t m k v
  | .mapUpdate t m k v => putMap T e H t m k v
  | .mapEntry t m k => entryA T e H t m k
  | .entryStore _ m s x => storeE e H m s x
  | .makeMap t none => match T t with
    | some ty => match ty.k with
      | .map _ _ => some (.mp H.length, H ++ [some ⟨t, [], true⟩])
      | _ => none
    | none => none
  | .box t x => match opnd e x with
    | some a => if ones (cellsA a) then some (.ptr H.length 0, H ++ [some ⟨t, cellsA a, true⟩]) else none
    | none => none
  | .buildSlice t len parts => match litCells T e t len parts with
    | some (el, sz, cs) => if ones cs then some (.ref H.length 0 len sz, H ++ [some ⟨el, cs, true⟩]) else none
    | none => none
  | .store t p x => match opnd e p, opnd e x, T t with
    | some (.ptr b off), some a, some ty => match H[b]? with
      | some (some k) =>
        if (cellsA a).length = ty.size ∧ off + ty.size ≤ k.cs.length ∧ ones (cellsA a) then some (.v undef, H.set b (some ⟨k.e, k.cs.take off ++ cellsA a ++ k.cs.drop (off + ty.size), k.whole⟩)) else none
      | _ => none
    | _, _, _ => none
  | .makeSlice t l c => match T t, opnd e l, opnd e c with
    | some ty, some (.v (.int _ n)), some (.v (.int _ m)) => match ty.k with
      | .slice el => match T el with
        | some te => if 0 ≤ n ∧ n ≤ m ∧ m * te.bytes ≤ 2 ^ 47 ∧ m ≤ (maxLen : Int) ∧ 0 < te.size ∧ te.zero.length = te.size then some (.ref H.length 0 n.toNat te.size, H ++ [some ⟨el, zeros te.zero m.toNat, true⟩]) else none
        | none => none
      | _ => none
    | _, _, _ => none
  | .call c => match c.callee with
    | .builtin .append => match opnds e c.args.toList, c.argTypes.toList with
      | some [s, x], [t, t'] => match T t with
        | some ty => match ty.k with
          | .slice el => match T el with
            | some te => match srcT H te t t' x with
              | some (m, news) => if news.length = m * te.size ∧ te.zero.length = te.size ∧ ones news then
                match s with
                | .v (.slice none 0 0) =>
                  if m = 0 then some (s, H)
                  else if m ≤ maxLen ∧ m * te.bytes ≤ 2 ^ 47 then some (.ref H.length 0 m te.size, H ++ [some ⟨el, news, false⟩]) else none
                | .ref b 0 n sz => match H[b]? with
                  | some (some k) =>
                    if sz = te.size ∧ k.e = el ∧ n * sz ≤ k.cs.length ∧ n + m ≤ maxLen ∧ (n + m) * te.bytes ≤ 2 ^ 47 then
                      some (.ref H.length 0 (n + m) sz, H.set b none ++ [some ⟨el, k.cs.take (n * sz) ++ news, false⟩])
                    else none
                  | _ => none
                | _ => none
                else none
              | none => none
            | none => none
          | _ => none
        | none => none
      | _, _ => none
    | .builtin .unsafeString => match opnds e c.args.toList, c.argTypes[0]? with
      | some [p, .v (.int .i64 n)], some pt => strOf T H pt p n
      | _, _ => none
    | .builtin .copy => match opnds e c.args.toList, (c.argTypes[0]?).bind T.ty with
      | some [d, x], some ty => match ty.k with
        | .slice el => match T el with
          | some te => match srcL H te.size x with
            | some (m, news) => match d with
              | .ref b off n sz => match H[b]? with
                | some (some k) =>
                  let j := min m n
                  let new := news.take (j * sz)
                  if sz = te.size ∧ news.length = m * te.size ∧ off + j * sz ≤ k.cs.length ∧ ones new then
                    some (.v (.int .i64 j), H.set b (some ⟨k.e, k.cs.take off ++ new ++ k.cs.drop (off + j * sz), k.whole⟩))
                  else none
                | _ => none
              | .v (.slice none 0 0) => some (.v (.int .i64 0), H)
              | .sl 0 _ => some (.v (.int .i64 0), H)
              | _ => none
            | none => none
          | none => none
        | _ => none
      | _, _ => none
    | _ => none
  | _ => none
where
  /-- What is appended. -/
  srcT (H : Heap) (te : Ty) (t t' : TypeId) (x : A) : Option (Nat × List A) :=
    bif Nat.beq t t' then srcL H te.size x
    else match T t' with
      | some ty => match ty.k, x with
        | .str, .v (.string s) => bif Nat.beq te.size 1 then some (s.size, bytesA s.data.toList) else none
        | .int _, .v (.int .i64 l) => if 0 ≤ l ∧ l ≤ maxLen ∧ 0 < te.size ∧ te.zero.length = te.size then some (l.toNat, zeros te.zero l.toNat) else none
        | _, _ => none
      | none => none
  /-- The values that a slice holds, as they lie. -/
  srcL (H : Heap) (sz : Nat) : A → Option (Nat × List A)
    | .sl n cs => some (n, cs)
    | .v (.slice none 0 0) => some (0, [])
    | .ref b off n s => match H[b]? with
      | some (some k) => if s = sz ∧ off + n * s ≤ k.cs.length then some (n, (k.cs.drop off).take (n * s)) else none
      | _ => none
    | _ => none

structure St where
  env : Env
  H : Heap

/-- Is it wanted? -/
def wants (e : Env) : Option (Nat × Bool) → Option Bool
  | none => some true
  | some (t, b) => match look e t with
    | some (.v (.bool x)) => some (x == b)
    | some (.v (.tuple _)) => some false
    | _ => none

/-- The first 'free' operations of a region: none of them touches a live block; a literal slice is held as a value. -/
def freeOp (T : Tb) (q : OrcQ) (st : St) (op : Op) : Option A :=
  match calls st.env op with
  | some (.fn f, as) => match lendL st.H as with
    | some as' => match q f as' with
      | some r => if (as.all shut) || flat r then some r else none
      | none => none
    | none => none
  | some (.yl _, _) => none
  | none => match op with
    | .buildSlice t len parts => match litCells T st.env t len parts with
      | some (_, _, cs) => if (shut.shutL cs) && ones cs then some (.sl len cs) else none
      | none => none
    | _ => quietOp T st.env st.H op
def anyOp (T : Tb) (o : Orc) (st : St) (op : Op) : Option (A × Heap) :=
  match calls st.env op with
  | some (f, as) => o f as st.H
  | none => match loudOp T st.env st.H op with
    | some r => some r
    | none => (quietOp T st.env st.H op).map fun a => (a, st.H)

def runOps (T : Tb) (q : OrcQ) (o : Orc) : Nat → List MOp → St → Option St
  | _, [], st => some st
  | n, m :: ms, st => match wants st.env m.guard with
    | none => none
    | some false => runOps T q o (n - 1) ms ⟨put st.env m.dst (.v undef), st.H⟩
    | some true => match n with
      | n + 1 => match freeOp T q st m.op with
        | some a => runOps T q o n ms ⟨put st.env m.dst a, st.H⟩
        | none => none
      | 0 => match anyOp T o st m.op with
        | some (a, H') => runOps T q o 0 ms ⟨put st.env m.dst a, H'⟩
        | none => none

/-- Alike, as far as this looks. -/
def eqV : Value → Value → Bool
  | .int k a, .int k' b => decide (k = k') && decide (a = b)
  | .bool a, .bool b => a == b
  | .string a, .string b => a == b
  | .slice none a b, .slice none c d => Nat.beq a c && Nat.beq b d
  | .slice (some p) a b, .slice (some q) c d => decide (p = q) && (Nat.beq a c && Nat.beq b d)
  | .pointer none, .pointer none => true
  | .pointer (some a), .pointer (some b) => decide (a = b)
  | .map none, .map none => true
  | .nilFunc, .nilFunc => true
  | .nilIface, .nilIface => true
  | .func (.func f) a b, .func (.func g) c d => Nat.beq f g && (a.isEmpty && b.isEmpty && c.isEmpty && d.isEmpty)
  | _, _ => false
mutual
def eqA : A → A → Bool
  | .v x, b => match b with
    | .v y => eqV x y
    | _ => false
  | .agg l, b => match b with
    | .agg r => eqL l r
    | _ => false
  | .tup l, b => match b with
    | .tup r => eqL l r
    | _ => false
  | .ptr i o, b => match b with
    | .ptr j p => Nat.beq i j && Nat.beq o p
    | _ => false
  | .ref i o n z, b => match b with
    | .ref j p m y => Nat.beq i j && Nat.beq o p && Nat.beq n m && Nat.beq z y
    | _ => false
  | .sl n l, b => match b with
    | .sl m r => Nat.beq n m && eqL l r
    | _ => false
  | .fp l, b => match b with
    | .fp r => eqL l r
    | _ => false
  | .mp i, b => match b with
    | .mp j => Nat.beq i j
    | _ => false
  | .mf l, b => match b with
    | .mf r => eqL l r
    | _ => false
  | .clo f l r, b => match b with
    | .clo g l' r' => Nat.beq f g && eqL l l' && eqL r r'
    | _ => false
  | .yl _, _ => false
  | .lrec _ _ _ _ _, _ => false
  | .it _, _ => false
  | .its _ _, _ => false
def eqL : List A → List A → Bool
  | [], b => b.isEmpty
  | x :: l, b => match b with
    | y :: r => eqA x y && eqL l r
    | [] => false
end
/-- An operation of a region that has come up before, looked at again. -/
def againOp (T : Tb) (st : St) (m : MOp) : Bool :=
  match wants st.env m.guard with
  | none => false
  | some false => true
  | some true => match calls st.env m.op with
    | some (.fn _, l) => l.all shut
    | some (.yl _, _) => false
    | none => match m.op with
      | .buildSlice _ _ _ => true
      | _ => match m.dst with
        | none => false
        | some d => match quietOp T st.env st.H m.op, look st.env d with
          | some y, some x => eqA y x
          | _, _ => false
def againAll (T : Tb) (st : St) : List MOp → Bool
  | [] => true
  | m :: ms => againOp T st m && againAll T st ms

inductive Ex where
  | go
  | out (id : Nat)
  | back

def exOfN : Nat → Ex
  | 0 => .go
  | 1 => .back
  | n + 2 => .out n
def nOfEx : Ex → Nat
  | .go => 0
  | .back => 1
  | .out n => n + 2
/-- A loop's record: its block's type, slots, assignments, body; its state, its jump; what it holds. -/
structure RecA where
  nt : Nat
  ps : List Nat
  sl : List Nat
  a : M
  b : M
  s : Int
  p : Int
  vs : List A
def recOf (H : Heap) (b : Nat) : Option RecA := match H[b]? with
  | some (some k) => match k.cs with
    | .lrec nt ps sl a bd :: .v (.int .i64 s) :: .v (.int .i64 p) :: vs => some ⟨nt, ps, sl, a, bd, s, p, vs⟩
    | _ => none
  | _ => none
def RecA.blk (r : RecA) (s p : Int) : Blk := ⟨0, .lrec r.nt r.ps r.sl r.a r.b :: .v (.int .i64 s) :: .v (.int .i64 p) :: r.vs, true⟩
/-- The jump that is to come, when the function that was ranged over has returned. -/
def pending (H : Heap) (b : Nat) : Option Ex := match recOf H b with
  | some r => if r.s = 1 then none else if 0 ≤ r.p then some (exOfN r.p.toNat) else none
  | none => none
/-- A loop's record, at its start. -/
def newRecA (nt : Nat) (ps : List Nat) (a b : M) (e : Env) : Blk := ⟨0, .lrec nt ps (e.map (·.1)) a b :: .v (.int .i64 0) :: .v (.int .i64 0) :: e.map (·.2), true⟩
def runM (T : Tb) (q : OrcQ) (o : Orc) : Nat → M → St → Option (Ex × St)
  | 0, _, _ => none
  | n + 1, m, st => match m with
    | .skip => some (.go, st)
    | .reg keep ops free => match runOps T q o free ops ⟨keepE st.env keep, st.H⟩ with
      | some st' => some (.go, st')
      | none => none
    | .ops ops => match runOps T q o 0 ops st with
      | some st' => some (.go, st')
      | none => none
    | .again ops => bif againAll T st ops then some (.go, st) else none
    | .seq a b => match runM T q o n a st with
      | some (.go, st') => runM T q o n b st'
      | r => r
    | .cond c a b => match opnd st.env c with
      | some (.v (.bool t)) => runM T q o n (bif t then a else b) st
      | _ => none
    | .block id a => match runM T q o n a st with
      | some (.out j, st') => bif Nat.beq j id then some (.go, st') else some (.out j, st')
      | r => r
    | .loop a => match runM T q o n a st with
      | some (.go, st') => runM T q o n (.loop a) st'
      | r => r
    | .rf g nt ps sl a b => match (opnd st.env g).bind callee with
      | some (.fn f, fs, caps) =>
        match o (.fn f) (fs ++ [.yl st.H.length] ++ caps) (st.H ++ [some (newRecA nt ps a b (keepE st.env sl))]) with
        | some (_, H') => match pending H' st.H.length with
          | some ex => some (ex, ⟨st.env, H'.set st.H.length none⟩)
          | none => none
        | none => none
      | _ => none
    | .exit id => some (.out id, st)
    | .ret => some (.back, st)
    | .bad => none

def argE : Nat → List A → Env
  | _, [] => []
  | i, a :: l => (i, a) :: argE (i + 1) l
def resOne (T : Tb) (st : St) : ResultVar → Option A
  | .tmp t => look st.env t
  | .cell p t => match (look st.env p).bind (readL T.gl.tab st.H), T t with
    | some cs, some ty => partA ty cs 0
    | _, _ => none
def resAll (T : Tb) (st : St) : List ResultVar → Option (List A)
  | [] => some []
  | r :: rs => match resOne T st r, resAll T st rs with
    | some a, some as => some (a :: as)
    | _, _ => none
def result (T : Tb) (st : St) (rs : List ResultVar) : Option A :=
  match resAll T st rs with
  | some [a] => some a
  | some as => some (.tup as)
  | none => none

/-- What the evaluator knows of the program. -/
structure Ctx where
  T : Tb
  B : FuncId → Option MFn
  /-- functions that are known otherwise: what they give of shut arguments -/
  X : FuncId → List A → Option A
  /-- functions that are known otherwise, in their caller's live blocks -/
  XO : FuncId → Option (List A → Heap → Option (A × Heap))
def isPass (C : Ctx) (f : FuncId) : Bool :=
  match C.B f with
  | some m => match m.mode with
    | .pass => true
    | _ => false
  | none => false

def isTrim (C : Ctx) (f : FuncId) : Bool :=
  match C.B f with
  | some m => match m.mode with
    | .trim => true
    | _ => false
  | none => false
mutual
/-- Nothing in it is a way into a block from this one on. -/
def lowA (n : Nat) : A → Bool
  | .v _ | .sl _ _ | .fp _ | .mf _ | .its _ _ | .lrec _ _ _ _ _ => true
  | .agg cs | .tup cs => lowL n cs
  | .clo _ fs caps => lowL n fs && lowL n caps
  | .ptr b _ | .ref b _ _ _ | .mp b | .yl b | .it b => Nat.blt b n
def lowL (n : Nat) : List A → Bool
  | [] => true
  | c :: cs => lowA n c && lowL n cs
end
def lowH (n : Nat) : Nat → Heap → Bool
  | 0, _ => true
  | _, [] => true
  | k + 1, o :: H => (match o with
    | some blk => lowL n blk.cs
    | none => true) && lowH n k H
/-- The new blocks are let go. -/
def trimR (n : Nat) : Option (A × Heap) → Option (A × Heap)
  | some (a, H) => bif lowA n a && lowH n n H then some (a, H.take n) else none
  | none => none
/-- A body, from its arguments, in these live blocks. -/
def runBody (C : Ctx) (q : OrcQ) (o : Orc) (n : Nat) (m : MFn) (as : List A) (H : Heap) : Option (A × Heap) :=
  if as.length ≤ m.nt then
    match runM C.T q o n m.body ⟨argE 0 as, H⟩ with
    | some (.go, st) | some (.back, st) => match result C.T st m.res with
      | some a => some (a, st.H)
      | none => none
    | _ => none
  else none
def zipE : List Nat → List A → Env → Env
  | s :: l, x :: xs, e => zipE l xs ((s, x) :: e)
  | _, _, e => e
/-- One round of a loop: the assignments, the body; what yield gives. -/
def runRound (T : Tb) (q : OrcQ) (o : Orc) (n : Nat) (b : Nat) (as : List A) (H : Heap) : Option (A × Heap) :=
  match recOf H b with
  | some r =>
    if r.s = 0 ∧ as.length = r.ps.length then
      match runM T q o n r.a ⟨zipE r.ps as (zipE r.sl r.vs []), H⟩ with
      | some (.go, s1) => match recOf s1.H b with
        | some r1 => if r1.s = 0 then match runM T q o n r.b ⟨s1.env, s1.H.set b (some (r1.blk 1 r1.p))⟩ with
            | some (ex, s2) => match recOf s2.H b with
              | some r2 => match ex with
                | .go => some (.v (.bool true), s2.H.set b (some (r2.blk 0 0)))
                | ex => some (.v (.bool false), s2.H.set b (some (r2.blk 2 (nOfEx ex))))
              | none => none
            | none => none
          else none
        | none => none
      | _ => none
    else none
  | none => none
/-- A call with shut arguments: its value, held. -/
def callQ (C : Ctx) : Nat → OrcQ
  | 0, _, _ => none
  | n + 1, f, as => match C.X f as with
    | some r => some r
    | none => match C.B f with
      | none => none
      | some m => match runBody C (callQ C n) (callO n) n m as [] with
        | some (a, H) => holdR m.mode H a
        | none => none
where
  callO : Nat → Orc
    | 0, _, _, _ => none
    | n + 1, .fn f, as, H => match C.XO f with
      | some g => g as H
      | none =>
        bif isPass C f then
          match C.B f with
          | none => none
          | some m => runBody C (callQ C n) (callO n) n m as H
        else bif isTrim C f then
          match C.B f with
          | none => none
          | some m => trimR H.length (runBody C (callQ C n) (callO n) n m as H)
        else match lendL H as with
          | some as' => match callQ C n f as' with
            | some r => if (as.all shut) || flat r then some (r, H) else none
            | none => none
          | none => none
    | n + 1, .yl b, as, H => runRound C.T (callQ C n) (callO n) n b as H
end Go.Proofs.YtijpomemobgddaaGreatDoor.Ev
