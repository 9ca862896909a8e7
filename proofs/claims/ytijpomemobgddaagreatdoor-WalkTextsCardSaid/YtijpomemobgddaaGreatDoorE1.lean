/- The evaluator's values, and what they stand for in a world: live blocks are owned, what is shared is never written. -/
import Derived.Test.YtijpomemobgddaaGreatDoorRel
import Derived.Laws.AppendOwn
set_option linter.unusedSimpArgs false
set_option linter.unusedVariables false
namespace Go.Proofs.YtijpomemobgddaaGreatDoor.Ev
open Go Go.RowKit

/-- One operation, in short: where its value goes, what it does, the slot of its guard. -/
structure MOp where
  dst : Option Nat
  op : Op
  guard : Option (Nat × Bool)
/-- Statements in short: 'reg keep ops free': what is alive ahead of a region, its operations, how many of the first ones may come up in any order; 'ops': more operations of the same region; 'again': these of its operations would give now what they gave; 'rf g nt ps sl a b': a range over the function g: the slots of the parameters, the slots that its rounds look at, the assignments, the body. -/
inductive M where
  | skip
  | reg (keep : List Nat) (ops : List MOp) (free : Nat)
  | ops (ops : List MOp)
  | again (ops : List MOp)
  | seq (a b : M)
  | cond (c : Operand) (a b : M)
  | block (id : Nat) (a : M)
  | loop (a : M)
  | rf (g : Operand) (nt : Nat) (ps sl : List Nat) (a b : M)
  | exit (id : Nat)
  | ret
  | bad

/-- A value of the evaluator: known exactly; a struct or an array by its cells; several results; a pointer into a live block; a slice of a live block; a slice that nobody writes; a pointer to cells that nobody writes; a map that is a live block; a map that nobody writes (its entries, keys and values in turn); a closure; the yield of a loop whose record is a live block; what a loop's record holds; the place in a string that is ranged over, which is a live block. -/
inductive A where
  | v (x : Value)
  | agg (cs : List A)
  | tup (vs : List A)
  | ptr (b off : Nat)
  | ref (b off len sz : Nat)
  | sl (len : Nat) (cs : List A)
  | fp (cs : List A)
  | mp (b : Nat)
  | mf (cs : List A)
  | clo (f : FuncId) (fs caps : List A)
  | yl (b : Nat)
  | lrec (nt : Nat) (ps sl : List Nat) (a b : M)
  | it (b : Nat)
  | its (s : ByteArray) (pos : Nat)
instance : Inhabited A := ⟨.v undef⟩

/-- A live block: its type, the cells that are known of it from its start on, whether these are all. -/
structure Blk where
  e : TypeId
  cs : List A
  whole : Bool
abbrev Heap := List (Option Blk)

/-- What the evaluator takes as given: the program's constant tables; what it means that a loop's record is for these slots, assignments and body; the variables that hold an interface value. -/
structure GD where
  tab : Nat → Option (List Value)
  lk : Nat → List Nat → List Nat → M → M → Loop → Prop
  ifs : Nat → Bool := fun _ => false

/-- Cells that lie in a row. -/
def Lies (w : World) (g off : Nat) (xs : List Value) : Prop := ∀ (i : Nat) x, xs[i]? = some x → w.cell? ⟨g, off + i, none⟩ = some x

/-- A map's entries, keys and values in turn. -/
def flatE (es : List MapEntry) : List Value := es.flatMap fun e => [e.key, e.val]

mutual
def R (ρ : List Nat) (own : Nat → Prop) (w : World) : A → Value → Prop
  | .v x, y => y = x
  | .agg cs, y => ∃ xs : List Value, y = .agg xs.toArray ∧ RL ρ own w cs xs
  | .tup cs, y => ∃ xs : List Value, y = .tuple xs.toArray ∧ RL ρ own w cs xs
  | .ptr b off, y => ∃ g, ρ[b]? = some g ∧ y = .pointer (some ⟨g, off, none⟩) ∧ ∃ cur e fz, w.heap[g]? = some (.cells cur e fz)
  | .ref b off len sz, y => ∃ g cap cur e fz, ρ[b]? = some g ∧ y = .slice (some ⟨g, off, none⟩) len cap ∧ len ≤ cap ∧ cap ≤ maxLen ∧ w.heap[g]? = some (.cells cur e fz) ∧ off + cap * sz ≤ cur.size
  | .sl len cs, y => (len = 0 ∧ cs = [] ∧ ∃ a cap, y = .slice a 0 cap) ∨ ∃ g off cap xs, y = .slice (some ⟨g, off, none⟩) len cap ∧ len ≤ cap ∧ g < w.heap.size ∧ ¬ own g ∧ RL [] own w cs xs ∧ Lies w g off xs
  | .fp cs, y => ∃ g off xs, y = .pointer (some ⟨g, off, none⟩) ∧ g < w.heap.size ∧ ¬ own g ∧ RL [] own w cs xs ∧ Lies w g off xs
  | .mp b, y => ∃ g, ρ[b]? = some g ∧ y = .map (some g) ∧ ∃ es n, w.heap[g]? = some (.map es n)
  | .mf cs, y => (cs = [] ∧ y = .map none) ∨ ∃ g es n, y = .map (some g) ∧ g < w.heap.size ∧ ¬ own g ∧ w.heap[g]? = some (.map es n) ∧ RL [] own w cs (flatE es.toList)
  | .clo f fs caps, y => ∃ xs ys : List Value, y = .func (.func f) xs.toArray ys.toArray ∧ RL ρ own w fs xs ∧ RL ρ own w caps ys
  | .yl b, y => ∃ g, ρ[b]? = some g ∧ y = .func (.yield g) #[] #[] ∧ ∃ r, w.heap[g]? = some (.loop r)
  | .lrec _ _ _ _ _, _ => False
  | .it b, y => ∃ g, ρ[b]? = some g ∧ y = .pointer (some ⟨g, 0, none⟩) ∧ ∃ s p, w.heap[g]? = some (.stringIter s p)
  | .its _ _, _ => False
def RL (ρ : List Nat) (own : Nat → Prop) (w : World) : List A → List Value → Prop
  | [], ys => ys = []
  | c :: cs, ys => ∃ x xs, ys = x :: xs ∧ R ρ own w c x ∧ RL ρ own w cs xs
end

theorem RL.length {ρ : List Nat} {own : Nat → Prop} {w : World} : ∀ {cs : List A} {ys : List Value}, RL ρ own w cs ys → ys.length = cs.length
  | [], _, h => by rw [RL] at h; simp [h]
  | _ :: cs, _, h => by
    rw [RL] at h
    obtain ⟨x, xs, rfl, -, h2⟩ := h
    simp [RL.length h2]
theorem RL.get {ρ : List Nat} {own : Nat → Prop} {w : World} : ∀ {cs : List A} {ys : List Value}, RL ρ own w cs ys → ∀ (i : Nat) c, cs[i]? = some c → ∃ y, ys[i]? = some y ∧ R ρ own w c y
  | [], _, h, i, c, hc => by simp at hc
  | c0 :: cs, _, h, i, c, hc => by
    rw [RL] at h
    obtain ⟨x, xs, rfl, h1, h2⟩ := h
    cases i with
    | zero => simp at hc; subst hc; exact ⟨x, rfl, h1⟩
    | succ i => simpa using RL.get h2 i c (by simpa using hc)
theorem RL.cons {ρ : List Nat} {own : Nat → Prop} {w : World} {c : A} {cs : List A} {x : Value} {xs : List Value} (h : R ρ own w c x) (h' : RL ρ own w cs xs) : RL ρ own w (c :: cs) (x :: xs) := by
  rw [RL]; exact ⟨x, xs, rfl, h, h'⟩
theorem RL.nil {ρ : List Nat} {own : Nat → Prop} {w : World} : RL ρ own w [] [] := by rw [RL]
theorem RL.append {ρ : List Nat} {own : Nat → Prop} {w : World} : ∀ {cs ds : List A} {xs ys : List Value}, RL ρ own w cs xs → RL ρ own w ds ys → RL ρ own w (cs ++ ds) (xs ++ ys)
  | [], _, _, _, h, h' => by rw [RL] at h; subst h; exact h'
  | c :: cs, _, _, _, h, h' => by
    rw [RL] at h
    obtain ⟨x, xs, rfl, h1, h2⟩ := h
    exact RL.cons h1 (RL.append h2 h')
theorem RL.take {ρ : List Nat} {own : Nat → Prop} {w : World} : ∀ {cs : List A} {xs : List Value} (n : Nat), RL ρ own w cs xs → RL ρ own w (cs.take n) (xs.take n)
  | _, _, 0, _ => by simpa using RL.nil
  | [], _, n + 1, h => by rw [RL] at h; subst h; simpa using RL.nil
  | c :: cs, _, n + 1, h => by
    rw [RL] at h
    obtain ⟨x, xs, rfl, h1, h2⟩ := h
    exact RL.cons h1 (RL.take n h2)
theorem RL.drop {ρ : List Nat} {own : Nat → Prop} {w : World} : ∀ {cs : List A} {xs : List Value} (n : Nat), RL ρ own w cs xs → RL ρ own w (cs.drop n) (xs.drop n)
  | _, _, 0, h => h
  | [], _, n + 1, h => by rw [RL] at h; subst h; simpa using RL.nil
  | c :: cs, _, n + 1, h => by
    rw [RL] at h
    obtain ⟨x, xs, rfl, h1, h2⟩ := h
    simpa using RL.drop n h2
theorem RL.exact {ρ : List Nat} {own : Nat → Prop} {w : World} : ∀ (xs : List Value), RL ρ own w (xs.map A.v) xs
  | [] => RL.nil
  | _ :: xs => RL.cons (by rw [R]) (RL.exact xs)

theorem Lies.take {w : World} {g off : Nat} {xs : List Value} (h : Lies w g off xs) (n : Nat) : Lies w g off (xs.take n) := fun i x hx => h i x (by
  rw [List.getElem?_take] at hx
  split at hx
  · exact hx
  · cases hx)
theorem Lies.drop {w : World} {g off : Nat} {xs : List Value} (h : Lies w g off xs) (n : Nat) : Lies w g (off + n) (xs.drop n) := fun i x hx => by
  rw [List.getElem?_drop] at hx
  have := h (n + i) x hx
  rwa [← Nat.add_assoc] at this

/-- The images of the live blocks. -/
def img (ρ : List Nat) (H : Heap) (g : Nat) : Prop := ∃ (b : Nat) (k : Blk), H[b]? = some (some k) ∧ ρ[b]? = some g

structure Cfg where
  ρ : List Nat
  own : Nat → Prop
  H : Heap
  w : World

/-- The program's constant tables lie where they lie, and nobody owns them. -/
def Gl (Gd : GD) (own : Nat → Prop) (w : World) : Prop := (∀ g xs, Gd.tab g = some xs → ¬ own g ∧ g < w.heap.size ∧ Lies w g 0 xs ∧ ∃ e fz, w.heap[g]? = some (.cells xs.toArray e fz)) ∧
  ∀ g, Gd.ifs g = true → ¬ own g ∧ g < w.heap.size ∧ ∃ t p, w.cell? ⟨g, 0, none⟩ = some (.iface t p)
theorem Gl.less {Gd : GD} {own own' : Nat → Prop} {w : World} (h : Gl Gd own w) (k : ∀ g, own' g → own g) : Gl Gd own' w :=
  ⟨fun g xs hg => let ⟨h1, h2, h3⟩ := h.1 g xs hg; ⟨fun h => h1 (k g h), h2, h3⟩, fun g hg => let ⟨h1, h2, h3⟩ := h.2 g hg; ⟨fun h => h1 (k g h), h2, h3⟩⟩
variable {Gd : GD}
/-- A record's state, and the jump that is to come. -/
def stV : LoopState → Value
  | .ready => .int .i64 0
  | .busy => .int .i64 1
  | .done => .int .i64 2
  | .exhausted => .int .i64 3
def peV : Option Code → Value
  | none => .int .i64 0
  | some .ret => .int .i64 1
  | some (.exit id) => .int .i64 (id + 2)
  | some _ => .nilIface
def recV (sl : List Nat) (r : Loop) : List Value := stV r.state :: peV r.pending :: sl.map fun s => r.tmps.getD s undef
/-- A map's entries bear the numbers 0, 1, ..: none was struck. -/
def Born (es : Array MapEntry) (n : Nat) : Prop := n = es.size ∧ ∀ (i : Nat) e, es[i]? = some e → e.born = i
/-- What is known of a live block: its cells; or a map's entries; or a loop's record. -/
def BlkR (Gd : GD) (ρ : List Nat) (own : Nat → Prop) (w : World) (e : TypeId) (cs : List A) (wh : Bool) (g : Nat) : Prop :=
  (∃ cur xs, w.heap[g]? = some (.cells cur e (0, 0)) ∧ RL ρ own w cs xs ∧ xs <+: cur.toList ∧ (wh = true → cur.size = cs.length)) ∨
  (∃ es n, w.heap[g]? = some (.map es n) ∧ RL ρ own w cs (flatE es.toList) ∧ Born es n) ∨
  (∃ r nt ps sl a b rest, w.heap[g]? = some (.loop r) ∧ cs = .lrec nt ps sl a b :: rest ∧ Gd.lk nt ps sl a b r ∧ RL ρ own w rest (recV sl r)) ∨
  (∃ s p, w.heap[g]? = some (.stringIter s p) ∧ cs = [.its s p])
structure Ok (Gd : GD) (c : Cfg) : Prop where
  len : c.ρ.length = c.H.length
  lt : ∀ g, c.own g → g < c.w.heap.size
  img : ∀ g, img c.ρ c.H g → c.own g
  blk : ∀ (b : Nat) e cs wh (g : Nat), c.H[b]? = some (some ⟨e, cs, wh⟩) → c.ρ[b]? = some g → BlkR Gd c.ρ c.own c.w e cs wh g
  inj : ∀ (b b' : Nat) k k' (g : Nat), c.H[b]? = some (some k) → c.H[b']? = some (some k') → c.ρ[b]? = some g → c.ρ[b']? = some g → b = b'
  glob : Gl Gd c.own c.w

/-- Blocks that are no cells and no maps: what they are stays. -/
def okind : Obj → Nat
  | .loop _ => 1
  | .stringIter _ _ => 2
  | .mapIter _ _ _ _ => 3
  | _ => 0
theorem okind_loop {o : Obj} (h : okind o = 1) : ∃ r, o = .loop r := by cases o <;> simp [okind] at h; exact ⟨_, rfl⟩
theorem okind_iter {o : Obj} (h : okind o = 2) : ∃ s p, o = .stringIter s p := by cases o <;> simp [okind] at h; exact ⟨_, _, rfl⟩
/-- From one configuration to a later one. -/
structure To (c c' : Cfg) : Prop where
  pre : c.ρ <+: c'.ρ
  size : c.w.heap.size ≤ c'.w.heap.size
  os : c'.w.os = c.w.os
  tape : c'.w.tape = c.w.tape
  output : c'.w.output = c.w.output
  img : ∀ g, g < c.w.heap.size → Ev.img c'.ρ c'.H g → Ev.img c.ρ c.H g
  same : ∀ g, g < c.w.heap.size → ¬ Ev.img c.ρ c.H g → c'.w.heap[g]? = c.w.heap[g]?
  shape : ∀ (g : Nat) (cur : Array Value) (e : TypeId) (fz : Nat × Nat), c.w.heap[g]? = some (.cells cur e fz) → ∃ (cur' : Array Value) (fz' : Nat × Nat), c'.w.heap[g]? = some (.cells cur' e fz') ∧ cur'.size = cur.size
  maps : ∀ (g : Nat) es n, c.w.heap[g]? = some (.map es n) → ∃ es' n', c'.w.heap[g]? = some (.map es' n')
  kinds : ∀ (g : Nat) o, c.w.heap[g]? = some o → okind o ≠ 0 → ∃ o', c'.w.heap[g]? = some o' ∧ okind o' = okind o
  own : ∀ g, g < c.w.heap.size → (c'.own g ↔ c.own g)

theorem To.refl (c : Cfg) : To c c := ⟨List.prefix_rfl, Nat.le_refl _, rfl, rfl, rfl, fun _ _ h => h, fun _ _ _ => rfl, fun _ cur _ fz h => ⟨cur, fz, h, rfl⟩, fun _ es n h => ⟨es, n, h⟩, fun _ o h _ => ⟨o, h, rfl⟩, fun _ _ => Iff.rfl⟩
theorem To.trans {a b c : Cfg} (h : To a b) (k : To b c) : To a c :=
  ⟨h.pre.trans k.pre, Nat.le_trans h.size k.size, k.os.trans h.os, k.tape.trans h.tape, k.output.trans h.output,
   fun g hg hi => h.img g hg (k.img g (Nat.lt_of_lt_of_le hg h.size) hi),
   fun g hg hn => (k.same g (Nat.lt_of_lt_of_le hg h.size) (fun hi => hn (h.img g hg hi))).trans (h.same g hg hn),
   fun g cur e fz hc => let ⟨c1, f1, h1, h2⟩ := h.shape g cur e fz hc; let ⟨c2, f2, h3, h4⟩ := k.shape g c1 e f1 h1; ⟨c2, f2, h3, h4.trans h2⟩,
   fun g es n hc => let ⟨es1, n1, h1⟩ := h.maps g es n hc; k.maps g es1 n1 h1,
   fun g o hc h0 => let ⟨o1, h1, h2⟩ := h.kinds g o hc h0; let ⟨o2, h3, h4⟩ := k.kinds g o1 h1 (by rw [h2]; exact h0); ⟨o2, h3, h4.trans h2⟩,
   fun g hg => (k.own g (Nat.lt_of_lt_of_le hg h.size)).trans (h.own g hg)⟩

theorem pre_get {ρ ρ' : List Nat} (h : ρ <+: ρ') {b g : Nat} (hb : ρ[b]? = some g) : ρ'[b]? = some g := by
  obtain ⟨t, rfl⟩ := h
  rw [List.getElem?_append_left (List.getElem?_eq_some_iff.1 hb).1]
  exact hb

/-- What the values need of a step. -/
structure Keeps (ρ : List Nat) (own : Nat → Prop) (w : World) (ρ' : List Nat) (own' : Nat → Prop) (w' : World) : Prop where
  pre : ρ <+: ρ'
  size : w.heap.size ≤ w'.heap.size
  free : ∀ g, g < w.heap.size → ¬ own g → ¬ own' g ∧ w'.heap[g]? = w.heap[g]?
  shape : ∀ (g : Nat) (cur : Array Value) (e : TypeId) (fz : Nat × Nat), w.heap[g]? = some (.cells cur e fz) → ∃ (cur' : Array Value) (fz' : Nat × Nat), w'.heap[g]? = some (.cells cur' e fz') ∧ cur'.size = cur.size
  maps : ∀ (g : Nat) es n, w.heap[g]? = some (.map es n) → ∃ es' n', w'.heap[g]? = some (.map es' n')
  kinds : ∀ (g : Nat) o, w.heap[g]? = some o → okind o ≠ 0 → ∃ o', w'.heap[g]? = some o' ∧ okind o' = okind o
theorem Keeps.shut {ρ ρ' : List Nat} {own own' : Nat → Prop} {w w' : World} (k : Keeps ρ own w ρ' own' w') : Keeps [] own w [] own' w' := ⟨List.prefix_rfl, k.size, k.free, k.shape, k.maps, k.kinds⟩

theorem Keeps.loop {ρ ρ' : List Nat} {own own' : Nat → Prop} {w w' : World} (k : Keeps ρ own w ρ' own' w') {g : Nat} {r : Loop} (h : w.heap[g]? = some (.loop r)) : ∃ r', w'.heap[g]? = some (.loop r') := by
  obtain ⟨o, h1, h2⟩ := k.kinds g _ h (by simp [okind])
  obtain ⟨r', rfl⟩ := okind_loop h2
  exact ⟨r', h1⟩
theorem Keeps.iter {ρ ρ' : List Nat} {own own' : Nat → Prop} {w w' : World} (k : Keeps ρ own w ρ' own' w') {g : Nat} {s : ByteArray} {p : Nat} (h : w.heap[g]? = some (.stringIter s p)) : ∃ s' p', w'.heap[g]? = some (.stringIter s' p') := by
  obtain ⟨o, h1, h2⟩ := k.kinds g _ h (by simp [okind])
  obtain ⟨s', p', rfl⟩ := okind_iter h2
  exact ⟨s', p', h1⟩
theorem To.loop {c c' : Cfg} (k : To c c') {g : Nat} {r : Loop} (h : c.w.heap[g]? = some (.loop r)) : ∃ r', c'.w.heap[g]? = some (.loop r') := by
  obtain ⟨o, h1, h2⟩ := k.kinds g _ h (by simp [okind])
  obtain ⟨r', rfl⟩ := okind_loop h2
  exact ⟨r', h1⟩
theorem Lies.keep {ρ ρ' : List Nat} {own own' : Nat → Prop} {w w' : World} (k : Keeps ρ own w ρ' own' w') {g off : Nat} {xs : List Value} (hg : g < w.heap.size) (ho : ¬ own g) (h : Lies w g off xs) : Lies w' g off xs := fun i x hx =>
  (World.cell?_of_block (a := ⟨g, off + i, none⟩) (k.free g hg ho).2).trans (h i x hx)

mutual
theorem R.keep {ρ ρ' : List Nat} {own own' : Nat → Prop} {w w' : World} (k : Keeps ρ own w ρ' own' w') : ∀ (a : A) (y : Value), R ρ own w a y → R ρ' own' w' a y
  | .v x, y, h => by rw [R] at *; exact h
  | .agg cs, y, h => by
    rw [R] at *
    obtain ⟨xs, h1, h2⟩ := h
    exact ⟨xs, h1, RL.keep k cs xs h2⟩
  | .tup cs, y, h => by
    rw [R] at *
    obtain ⟨xs, h1, h2⟩ := h
    exact ⟨xs, h1, RL.keep k cs xs h2⟩
  | .ptr b off, y, h => by
    rw [R] at *
    obtain ⟨g, h1, h2, cur, e, fz, h3⟩ := h
    obtain ⟨cur', fz', h4, -⟩ := k.shape g cur e fz h3
    exact ⟨g, pre_get k.pre h1, h2, cur', e, fz', h4⟩
  | .ref b off len sz, y, h => by
    rw [R] at *
    obtain ⟨g, cap, cur, e, fz, h1, h2, h3, h4, h5, h6⟩ := h
    obtain ⟨cur', fz', h7, h8⟩ := k.shape g cur e fz h5
    exact ⟨g, cap, cur', e, fz', pre_get k.pre h1, h2, h3, h4, h7, h8 ▸ h6⟩
  | .sl len cs, y, h => by
    rw [R] at *
    rcases h with h | ⟨g, off, cap, xs, h1, h0, h2, h3, h4, h5⟩
    · exact .inl h
    · exact .inr ⟨g, off, cap, xs, h1, h0, Nat.lt_of_lt_of_le h2 k.size, (k.free g h2 h3).1, RL.keep k.shut cs xs h4, h5.keep k h2 h3⟩
  | .fp cs, y, h => by
    rw [R] at *
    obtain ⟨g, off, xs, h1, h2, h3, h4, h5⟩ := h
    exact ⟨g, off, xs, h1, Nat.lt_of_lt_of_le h2 k.size, (k.free g h2 h3).1, RL.keep k.shut cs xs h4, h5.keep k h2 h3⟩
  | .mp b, y, h => by
    rw [R] at *
    obtain ⟨g, h1, h2, es, n, h3⟩ := h
    obtain ⟨es', n', h4⟩ := k.maps g es n h3
    exact ⟨g, pre_get k.pre h1, h2, es', n', h4⟩
  | .mf cs, y, h => by
    rw [R] at *
    rcases h with h | ⟨g, es, n, h1, h2, h3, h4, h5⟩
    · exact .inl h
    · exact .inr ⟨g, es, n, h1, Nat.lt_of_lt_of_le h2 k.size, (k.free g h2 h3).1, (k.free g h2 h3).2.trans h4, RL.keep k.shut cs _ h5⟩
  | .clo f fs caps, y, h => by
    rw [R] at *
    obtain ⟨xs, ys, h1, h2, h3⟩ := h
    exact ⟨xs, ys, h1, RL.keep k fs xs h2, RL.keep k caps ys h3⟩
  | .yl b, y, h => by
    rw [R] at *
    obtain ⟨g, h1, h2, r, h3⟩ := h
    obtain ⟨r', h4⟩ := k.loop h3
    exact ⟨g, pre_get k.pre h1, h2, r', h4⟩
  | .lrec nt ps sl a b, y, h => by
    rw [R] at h
    exact h.elim
  | .it b, y, h => by
    rw [R] at *
    obtain ⟨g, h1, h2, s, p, h3⟩ := h
    obtain ⟨s', p', h4⟩ := k.iter h3
    exact ⟨g, pre_get k.pre h1, h2, s', p', h4⟩
  | .its s p, y, h => by
    rw [R] at h
    exact h.elim
theorem RL.keep {ρ ρ' : List Nat} {own own' : Nat → Prop} {w w' : World} (k : Keeps ρ own w ρ' own' w') : ∀ (cs : List A) (ys : List Value), RL ρ own w cs ys → RL ρ' own' w' cs ys
  | [], ys, h => by rw [RL] at *; exact h
  | c :: cs, ys, h => by
    rw [RL] at *
    obtain ⟨x, xs, h1, h2, h3⟩ := h
    exact ⟨x, xs, h1, R.keep k c x h2, RL.keep k cs xs h3⟩
end

theorem To.keeps {c c' : Cfg} (h : To c c') (ok : Ok Gd c) : Keeps c.ρ c.own c.w c'.ρ c'.own c'.w :=
  ⟨h.pre, h.size, fun g hg ho => ⟨fun ho' => ho ((h.own g hg).1 ho'), h.same g hg fun hi => ho (ok.img g hi)⟩, h.shape, h.maps, h.kinds⟩
theorem R.to {c c' : Cfg} (h : To c c') (ok : Ok Gd c) {a : A} {y : Value} (hr : R c.ρ c.own c.w a y) : R c'.ρ c'.own c'.w a y := R.keep (h.keeps ok) a y hr
theorem RL.to {c c' : Cfg} (h : To c c') (ok : Ok Gd c) {a : List A} {y : List Value} (hr : RL c.ρ c.own c.w a y) : RL c'.ρ c'.own c'.w a y := RL.keep (h.keeps ok) a y hr

theorem BlkR.keep {ρ ρ' : List Nat} {own own' : Nat → Prop} {w w' : World} (k : Keeps ρ own w ρ' own' w') {e : TypeId} {cs : List A} {wh : Bool} {g : Nat} (hs : w'.heap[g]? = w.heap[g]?) (h : BlkR Gd ρ own w e cs wh g) : BlkR Gd ρ' own' w' e cs wh g := by
  rcases h with ⟨cur, xs, h1, h2, h3, h4⟩ | ⟨es, n, h1, h2, h3⟩ | ⟨r, nt, ps, sl, a, b, rest, h1, h2, h3, h4⟩ | ⟨s, p, h1, h2⟩
  · exact .inl ⟨cur, xs, hs.trans h1, RL.keep k _ _ h2, h3, h4⟩
  · exact .inr (.inl ⟨es, n, hs.trans h1, RL.keep k _ _ h2, h3⟩)
  · exact .inr (.inr (.inl ⟨r, nt, ps, sl, a, b, rest, hs.trans h1, h2, h3, RL.keep k _ _ h4⟩))
  · exact .inr (.inr (.inr ⟨s, p, hs.trans h1, h2⟩))
theorem Ok.cells {c : Cfg} (ok : Ok Gd c) {b : Nat} {e : TypeId} {cs : List A} {wh : Bool} {g : Nat} (hb : c.H[b]? = some (some ⟨e, cs, wh⟩)) (hg : c.ρ[b]? = some g) {cur0 : Array Value} {e0 : TypeId} {fz0 : Nat × Nat} (hc : c.w.heap[g]? = some (.cells cur0 e0 fz0)) :
    ∃ cur xs, c.w.heap[g]? = some (.cells cur e (0, 0)) ∧ RL c.ρ c.own c.w cs xs ∧ xs <+: cur.toList ∧ (wh = true → cur.size = cs.length) := by
  rcases ok.blk b e cs wh g hb hg with h | ⟨es, n, h1, -⟩ | ⟨r, nt, ps, sl, a, b, rest, h1, -⟩ | ⟨s, p, h1, -⟩
  · exact h
  · rw [hc] at h1
    cases h1
  · rw [hc] at h1
    cases h1
  · rw [hc] at h1
    cases h1
theorem Ok.lt_blk {c : Cfg} (ok : Ok Gd c) {b : Nat} {k : Blk} {g : Nat} (hb : c.H[b]? = some (some k)) (hg : c.ρ[b]? = some g) : g < c.w.heap.size := ok.lt g (ok.img g ⟨b, k, hb, hg⟩)

theorem Gl.keep {ρ ρ' : List Nat} {own own' : Nat → Prop} {w w' : World} (k : Keeps ρ own w ρ' own' w') (h : Gl Gd own w) : Gl Gd own' w' := by
  refine ⟨fun g xs hg => ?_, fun g hg => ?_⟩
  · obtain ⟨h1, h2, h3, e, fz, h4⟩ := h.1 g xs hg
    exact ⟨(k.free g h2 h1).1, Nat.lt_of_lt_of_le h2 k.size, h3.keep k h2 h1, e, fz, (k.free g h2 h1).2.trans h4⟩
  · obtain ⟨h1, h2, t, p, h3⟩ := h.2 g hg
    exact ⟨(k.free g h2 h1).1, Nat.lt_of_lt_of_le h2 k.size, t, p, (World.cell?_of_block (a := ⟨g, 0, none⟩) (k.free g h2 h1).2).trans h3⟩
theorem To.glob {c c' : Cfg} (h : To c c') (ok : Ok Gd c) : Gl Gd c'.own c'.w := ok.glob.keep (h.keeps ok)
/-- A draw. -/
theorem To.drew (c : Cfg) : To c { c with w := c.w.drew } := ⟨List.prefix_rfl, Nat.le_refl _, rfl, rfl, rfl, fun _ _ h => h, fun _ _ _ => rfl, fun _ cur _ fz h => ⟨cur, fz, h, rfl⟩, fun _ es n h => ⟨es, n, h⟩, fun _ o h _ => ⟨o, h, rfl⟩, fun _ _ => Iff.rfl⟩
end Go.Proofs.YtijpomemobgddaaGreatDoor.Ev
