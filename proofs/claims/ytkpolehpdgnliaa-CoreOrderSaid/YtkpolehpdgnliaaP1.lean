/- Core, in plain: what the functions compute, and the laws of a single core with a memory. -/
import Derived.Test.YtkpolehpdgnliaaE22
set_option linter.unusedSimpArgs false
set_option linter.unusedVariables false
namespace Go.Proofs.Ytkpolehpdgnliaa.Pl

/-- An instruction. -/
structure Ins where
  op : Int
  dst : Int
  loc : Int
  ra : Bool
  na : Int
  rb : Bool
  nb : Int
  fn : Int
  mode : Int
  skip : Int
structure Core where
  pc : Int
  g : Nat → Int
  buf : List (Int × Int)
  waits : Bool
  drain : Bool
def u8 (n : Int) : Prop := 0 ≤ n ∧ n ≤ 255
structure Ins.Ok (x : Ins) : Prop where
  op : u8 x.op
  dst : u8 x.dst
  loc : u8 x.loc
  na : u8 x.na
  nb : u8 x.nb
  fn : u8 x.fn
  mode : u8 x.mode
  skip : u8 x.skip
structure Core.Ok (c : Core) : Prop where
  pc : u8 c.pc
  g : ∀ i, u8 (c.g i)
  buf : ∀ p ∈ c.buf, u8 p.1 ∧ u8 p.2

def value (g : Nat → Int) (r : Bool) (n : Int) : Int := if r then (if n < 8 then g n.toNat else 0) else n
def mov (fn a b : Int) : Int := if fn = 1 then Go.IntKind.u8.wrap (a + b) else if fn = 2 then Go.IntKind.u8.wrap (a - b) else if fn = 3 then Go.IntKind.u8.wrap (BitVec.ofInt Go.IntKind.u8.bits a ^^^ BitVec.ofInt Go.IntKind.u8.bits b).toNat else 0
def tst (fn a b : Int) : Bool := if fn = 4 then a == b else if fn = 5 then a != b else if fn = 6 then decide (a < b) else false
/-- The value of the youngest buffered store to a location. -/
def young (loc : Int) : List (Int × Int) → Option Int
  | [] => none
  | p :: l => match young loc l with
    | some v => some v
    | none => if p.1 = loc then some p.2 else none
def free (c : Core) (s : Int) (is : Bool) : Int := if is && !c.waits then s else 4
def next (l : List Ins) (b : Int) (c : Core) : Int :=
  match l[c.pc.toNat]? with
  | none => free c 1 c.buf.isEmpty
  | some x =>
    if x.op = 3 ∨ x.op = 8 then free c 2 true
    else if x.op = 7 then free c 2 (c.buf.isEmpty || x.mode != 3)
    else if x.op = 2 then (if b > 0 then free c 2 (decide ((c.buf.length : Int) < b)) else free c 3 (!c.drain))
    else if x.op = 1 then (match young x.loc c.buf with
      | some _ => free c 2 true
      | none => free c 3 (!c.drain))
    else if x.op = 4 ∨ x.op = 5 ∨ x.op = 6 then free c 3 (c.buf.isEmpty && !c.drain)
    else 4
structure Op where
  kind : Int
  loc : Int
  a : Int
  b : Int
def ask (l : List Ins) (c : Core) : Op :=
  match l[c.pc.toNat]? with
  | none => ⟨0, 0, 0, 0⟩
  | some x =>
    if x.op = 1 then ⟨x.op, x.loc, 0, 0⟩
    else if x.op = 2 ∨ x.op = 4 ∨ x.op = 5 then ⟨x.op, x.loc, value c.g x.ra x.na, 0⟩
    else if x.op = 6 then ⟨x.op, x.loc, value c.g x.ra x.na, value c.g x.rb x.nb⟩
    else ⟨0, 0, 0, 0⟩
def set (g : Nat → Int) (d v : Int) : Nat → Int := fun i => if d < 8 ∧ i = d.toNat then v else g i
/-- On by some instructions, at most to the end. -/
def on (l : List Ins) (pc n : Int) : Int := min (min (pc + n) l.length) 255
def loc1 (x : Ins) (l : List Ins) (c : Core) : Core :=
  if x.op = 3 then { c with g := set c.g x.dst (mov x.fn (value c.g x.ra x.na) (value c.g x.rb x.nb)), pc := on l c.pc 1 }
  else if x.op = 8 then { c with pc := on l c.pc (if tst x.fn (value c.g x.ra x.na) (value c.g x.rb x.nb) then 1 + x.skip else 1) }
  else if x.op = 7 then { c with pc := on l c.pc 1 }
  else if x.op = 2 then { c with buf := c.buf ++ [(x.loc, value c.g x.ra x.na)], pc := on l c.pc 1 }
  else if x.op = 1 then { c with g := (match young x.loc c.buf with | some v => set c.g x.dst v | none => c.g), pc := on l c.pc 1 }
  else c
def loc (l : List Ins) (b : Int) (c : Core) : Core :=
  if next l b c = 2 then
    match l[c.pc.toNat]? with
    | some x => loc1 x l c
    | none => c
  else c
def drains (c : Core) : Option (Int × Int) := if c.waits || c.drain then none else c.buf.head?
def back (l : List Ins) (c : Core) (old : Int) : Core :=
  if c.drain then { c with buf := c.buf.drop 1, drain := false }
  else if c.waits then
    { c with waits := false, pc := on l c.pc 1, g := match l[c.pc.toNat]? with
      | some x => if x.op = 2 then c.g else set c.g x.dst old
      | none => c.g }
  else c
end Go.Proofs.Ytkpolehpdgnliaa.Pl
namespace Go.Proofs.Ytkpolehpdgnliaa.Pl
theorem next_facts (l : List Ins) (b pc : Int) (g : Nat → Int) (bs : List (Int × Int)) (w d : Bool) (p1 : 0 ≤ pc) :
    (next l b ⟨pc, g, bs, w, d⟩ = 1 ∧ (l.length : Int) ≤ pc ∧ w = false ∧ bs = []) ∨
    (next l b ⟨pc, g, bs, w, d⟩ = 2 ∧ w = false ∧ ∃ x, l[pc.toNat]? = some x ∧ ((x.op = 1 ∧ ∃ v, young x.loc bs = some v) ∨ (x.op = 2 ∧ (bs.length : Int) < b) ∨ x.op = 3 ∨ (x.op = 7 ∧ (bs = [] ∨ x.mode ≠ 3)) ∨ x.op = 8)) ∨
    (next l b ⟨pc, g, bs, w, d⟩ = 3 ∧ w = false ∧ d = false ∧ ∃ x, l[pc.toNat]? = some x ∧ ((x.op = 1 ∧ young x.loc bs = none) ∨ (x.op = 2 ∧ b ≤ 0) ∨ ((x.op = 4 ∨ x.op = 5 ∨ x.op = 6) ∧ bs = []))) ∨
    (next l b ⟨pc, g, bs, w, d⟩ = 4 ∧ (w = true ∨ d = true ∨ bs ≠ [] ∨ ∃ x, l[pc.toNat]? = some x ∧ ¬ (1 ≤ x.op ∧ x.op ≤ 8))) := by
  cases hx : l[pc.toNat]? with
  | none =>
    have hn : next l b ⟨pc, g, bs, w, d⟩ = free ⟨pc, g, bs, w, d⟩ 1 bs.isEmpty := by simp only [next, hx]
    have hlen : (l.length : Int) ≤ pc := by
      have := List.getElem?_eq_none_iff.1 hx
      omega
    rw [hn]
    cases w <;> cases bs <;> simp [free, hlen]
  | some x =>
    by_cases h3 : x.op = 3
    · have hn : next l b ⟨pc, g, bs, w, d⟩ = free ⟨pc, g, bs, w, d⟩ 2 true := by simp only [next, hx, h3, true_or, if_true]
      rw [hn]
      cases w <;> simp [free, h3]
    by_cases h8 : x.op = 8
    · have hn : next l b ⟨pc, g, bs, w, d⟩ = free ⟨pc, g, bs, w, d⟩ 2 true := by simp only [next, hx, h8, or_true, if_true]
      rw [hn]
      cases w <;> simp [free, h8]
    by_cases h7 : x.op = 7
    · have hn : next l b ⟨pc, g, bs, w, d⟩ = free ⟨pc, g, bs, w, d⟩ 2 (bs.isEmpty || x.mode != 3) := by
        simp only [next, hx, h7]
        simp
      rw [hn]
      by_cases hm : x.mode = 3 <;> cases w <;> cases bs <;> simp [free, h7, hm]
    by_cases h2 : x.op = 2
    · by_cases hb : b > 0
      · have hn : next l b ⟨pc, g, bs, w, d⟩ = free ⟨pc, g, bs, w, d⟩ 2 (decide ((bs.length : Int) < b)) := by
          simp only [next, hx, h2]
          simp [hb]
        rw [hn]
        by_cases hl : (bs.length : Int) < b
        · cases w <;> simp [free, h2, hl]
        · have : bs ≠ [] := by
            rintro rfl
            simp at hl
            omega
          cases w <;> simp [free, h2, hl, this]
      · have hn : next l b ⟨pc, g, bs, w, d⟩ = free ⟨pc, g, bs, w, d⟩ 3 (!d) := by
          simp only [next, hx, h2]
          simp [hb]
        rw [hn]
        have : b ≤ 0 := by omega
        cases w <;> cases d <;> simp [free, h2, this]
    by_cases h1 : x.op = 1
    · cases hy : young x.loc bs with
      | none =>
        have hn : next l b ⟨pc, g, bs, w, d⟩ = free ⟨pc, g, bs, w, d⟩ 3 (!d) := by
          simp only [next, hx, h1]
          simp [hy]
        rw [hn]
        cases w <;> cases d <;> simp [free, h1, hy]
      | some v =>
        have hn : next l b ⟨pc, g, bs, w, d⟩ = free ⟨pc, g, bs, w, d⟩ 2 true := by
          simp only [next, hx, h1]
          simp [hy]
        rw [hn]
        cases w <;> simp [free, h1, hy]
    by_cases h4 : x.op = 4 ∨ x.op = 5 ∨ x.op = 6
    · have hn : next l b ⟨pc, g, bs, w, d⟩ = free ⟨pc, g, bs, w, d⟩ 3 (bs.isEmpty && !d) := by
        simp only [next, hx]
        simp [h1, h2, h3, h7, h8, h4]
      rw [hn]
      cases w <;> cases d <;> cases bs <;> simp [free, h4]
    · have hn : next l b ⟨pc, g, bs, w, d⟩ = 4 := by
        simp only [next, hx]
        simp [h1, h2, h3, h7, h8, h4]
      rw [hn]
      refine .inr (.inr (.inr ⟨rfl, .inr (.inr (.inr ⟨x, rfl, ?_⟩))⟩))
      omega
/-- What Local leaves. -/
theorem loc1_facts {x : Ins} {l : List Ins} {c : Core} (p1 : 0 ≤ c.pc) (p2 : c.pc ≤ 255) (hp : c.pc < l.length) (hs : 0 ≤ x.skip) (hop : x.op = 1 ∨ x.op = 2 ∨ x.op = 3 ∨ x.op = 7 ∨ x.op = 8) :
    ((loc1 x l c).buf = c.buf ∨ ∃ p, (loc1 x l c).buf = c.buf ++ [p]) ∧ (loc1 x l c).waits = c.waits ∧ (loc1 x l c).drain = c.drain ∧ (∃ d : Nat, ∀ i, i ≠ d → (loc1 x l c).g i = c.g i) ∧ ((loc1 x l c).pc > c.pc ∨ c.pc = 255) := by
  have hset : ∀ v, ∃ d : Nat, ∀ i, i ≠ d → set c.g x.dst v i = c.g i := fun v => ⟨x.dst.toNat, fun i hi => by simp [set, hi]⟩
  have hon : ∀ n, 1 ≤ n → on l c.pc n > c.pc ∨ c.pc = 255 := fun n hn => by
    unfold on
    omega
  by_cases h3 : x.op = 3
  · simp only [loc1, h3, if_true]
    exact ⟨.inl trivial, trivial, trivial, hset _, hon 1 (by omega)⟩
  by_cases h8 : x.op = 8
  · simp only [loc1, h8]
    refine ⟨.inl rfl, rfl, rfl, ⟨0, fun i _ => rfl⟩, ?_⟩
    simp only [Int.reduceEq, if_false, if_true]
    refine hon _ ?_
    split <;> omega
  by_cases h7 : x.op = 7
  · simp only [loc1, h7]
    exact ⟨.inl rfl, rfl, rfl, ⟨0, fun i _ => rfl⟩, hon 1 (by omega)⟩
  by_cases h2 : x.op = 2
  · simp only [loc1, h2]
    exact ⟨.inr ⟨_, rfl⟩, rfl, rfl, ⟨0, fun i _ => rfl⟩, hon 1 (by omega)⟩
  have h1 : x.op = 1 := by omega
  simp only [loc1, h1]
  refine ⟨.inl rfl, rfl, rfl, ?_, hon 1 (by omega)⟩
  simp only [Int.reduceEq, if_false, if_true]
  cases young x.loc c.buf with
  | none => exact ⟨0, fun i _ => rfl⟩
  | some v => exact hset v
end Go.Proofs.Ytkpolehpdgnliaa.Pl
