/- Core, in plain: what the functions compute, and the laws of a single core with a memory. -/
import Derived.Test.YtkpolehpdgnliaaE22
set_option linter.unusedSimpArgs false
set_option linter.unusedVariables false
namespace Go.Proofs.Ytkpolehpdgnliaa.Pl

/-- An instruction. -/
structure Ins where
  op : Int
  dst : Int
  loc : Int
  ra : Bool
  na : Int
  rb : Bool
  nb : Int
  fn : Int
  mode : Int
  skip : Int
structure Core where
  pc : Int
  g : Nat → Int
  buf : List (Int × Int)
  waits : Bool
  drain : Bool
def u8 (n : Int) : Prop := 0 ≤ n ∧ n ≤ 255
structure Ins.Ok (x : Ins) : Prop where
  op : u8 x.op
  dst : u8 x.dst
  loc : u8 x.loc
  na : u8 x.na
  nb : u8 x.nb
  fn : u8 x.fn
  mode : u8 x.mode
  skip : u8 x.skip
structure Core.Ok (c : Core) : Prop where
  pc : u8 c.pc
  g : ∀ i, u8 (c.g i)
  buf : ∀ p ∈ c.buf, u8 p.1 ∧ u8 p.2

def value (g : Nat → Int) (r : Bool) (n : Int) : Int := if r then (if n < 8 then g n.toNat else 0) else n
def mov (fn a b : Int) : Int := if fn = 1 then Go.IntKind.u8.wrap (a + b) else if fn = 2 then Go.IntKind.u8.wrap (a - b) else if fn = 3 then Go.IntKind.u8.wrap (BitVec.ofInt Go.IntKind.u8.bits a ^^^ BitVec.ofInt Go.IntKind.u8.bits b).toNat else 0
def tst (fn a b : Int) : Bool := if fn = 4 then a == b else if fn = 5 then a != b else if fn = 6 then decide (a < b) else false
/-- The value of the youngest buffered store to a location. -/
def young (loc : Int) : List (Int × Int) → Option Int
  | [] => none
  | p :: l => match young loc l with
    | some v => some v
    | none => if p.1 = loc then some p.2 else none
def free (c : Core) (s : Int) (is : Bool) : Int := if is && !c.waits then s else 4
def next (l : List Ins) (b : Int) (c : Core) : Int :=
  match l[c.pc.toNat]? with
  | none => free c 1 c.buf.isEmpty
  | some x =>
    if x.op = 3 ∨ x.op = 8 then free c 2 true
    else if x.op = 7 then free c 2 (c.buf.isEmpty || x.mode != 3)
    else if x.op = 2 then (if b > 0 then free c 2 (decide ((c.buf.length : Int) < b)) else free c 3 (!c.drain))
    else if x.op = 1 then (match young x.loc c.buf with
      | some _ => free c 2 true
      | none => free c 3 (!c.drain))
    else if x.op = 4 ∨ x.op = 5 ∨ x.op = 6 then free c 3 (c.buf.isEmpty && !c.drain)
    else 4
structure Op where
  kind : Int
  loc : Int
  a : Int
  b : Int
def ask (l : List Ins) (c : Core) : Op :=
  match l[c.pc.toNat]? with
  | none => ⟨0, 0, 0, 0⟩
  | some x =>
    if x.op = 1 then ⟨x.op, x.loc, 0, 0⟩
    else if x.op = 2 ∨ x.op = 4 ∨ x.op = 5 then ⟨x.op, x.loc, value c.g x.ra x.na, 0⟩
    else if x.op = 6 then ⟨x.op, x.loc, value c.g x.ra x.na, value c.g x.rb x.nb⟩
    else ⟨0, 0, 0, 0⟩
def set (g : Nat → Int) (d v : Int) : Nat → Int := fun i => if d < 8 ∧ i = d.toNat then v else g i
/-- On by some instructions, at most to the end. -/
def on (l : List Ins) (pc n : Int) : Int := min (min (pc + n) l.length) 255
def loc1 (x : Ins) (l : List Ins) (c : Core) : Core :=
  if x.op = 3 then { c with g := set c.g x.dst (mov x.fn (value c.g x.ra x.na) (value c.g x.rb x.nb)), pc := on l c.pc 1 }
  else if x.op = 8 then { c with pc := on l c.pc (if tst x.fn (value c.g x.ra x.na) (value c.g x.rb x.nb) then 1 + x.skip else 1) }
  else if x.op = 7 then { c with pc := on l c.pc 1 }
  else if x.op = 2 then { c with buf := c.buf ++ [(x.loc, value c.g x.ra x.na)], pc := on l c.pc 1 }
  else if x.op = 1 then { c with g := (match young x.loc c.buf with | some v => set c.g x.dst v | none => c.g), pc := on l c.pc 1 }
  else c
def loc (l : List Ins) (b : Int) (c : Core) : Core :=
  if next l b c = 2 then
    match l[c.pc.toNat]? with
    | some x => loc1 x l c
    | none => c
  else c
def drains (c : Core) : Option (Int × Int) := if c.waits || c.drain then none else c.buf.head?
def back (l : List Ins) (c : Core) (old : Int) : Core :=
  if c.drain then { c with buf := c.buf.drop 1, drain := false }
  else if c.waits then
    { c with waits := false, pc := on l c.pc 1, g := match l[c.pc.toNat]? with
      | some x => if x.op = 2 then c.g else set c.g x.dst old
      | none => c.g }
  else c
end Go.Proofs.Ytkpolehpdgnliaa.Pl
