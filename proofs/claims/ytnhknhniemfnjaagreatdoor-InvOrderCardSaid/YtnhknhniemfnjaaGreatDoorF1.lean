/- table.Set: a table with a cell in another's place. -/
import Derived.Test.YtnhknhniemfnjaaGreatDoorC1
import Derived.Test.YtnhknhniemfnjaaGreatDoorE21
set_option linter.unusedSimpArgs false
set_option linter.unusedVariables false
namespace Go.Proofs.YtnhknhniemfnjaaGreatDoor.Ev
open Go Go.RowKit
set_option maxRecDepth 100000
section
variable {α : Type}
theorem ap_get0 (H : List α) (x : α) (l : List α) : (H ++ x :: l)[H.length]? = some x := by simp
theorem ap_set0 (H : List α) (x y : α) (l : List α) : (H ++ x :: l).set H.length y = H ++ y :: l := by simp
theorem ap_low {H : List α} {i : Nat} {a : α} (h : H[i]? = some a) (l : List α) : (H ++ l)[i]? = some a := by
  rw [List.getElem?_append_left (List.getElem?_eq_some_iff.1 h).1]; exact h
theorem ap_slow {H : List α} {i : Nat} {a : α} (h : H[i]? = some a) (l : List α) (y : α) : (H ++ l).set i y = H.set i y ++ l := by
  rw [List.set_append_left _ _ (List.getElem?_eq_some_iff.1 h).1]
theorem as_get0 (H : List α) (i : Nat) (z x : α) (l : List α) : (H.set i z ++ x :: l)[H.length]? = some x := by
  have := ap_get0 (H.set i z) x l
  rwa [List.length_set] at this
theorem set_same {H : List α} {i : Nat} {a : α} (h : H[i]? = some a) (y : α) : (H.set i y)[i]? = some y := List.getElem?_set_self (List.getElem?_eq_some_iff.1 h).1
theorem set_other {H : List α} {i j : Nat} {a y : α} (h : H[i]? = some a) (hne : j ≠ i) : (H.set j y)[i]? = some a := by rw [List.getElem?_set_ne hne]; exact h
end
abbrev i8 (n : Int) : A := .v (.int .u8 n)
abbrev bo (b : Bool) : A := .v (.bool b)

def z42 : List Value := ty42.zero
theorem t42 : Cx.T 42 = some ⟨.struct [(9, 0, true), (38, 1, true), (40, 505, true)], 565, 768, z42, true⟩ := by rfl
def z38 : List Value := ty38.zero
theorem t38 : Cx.T 38 = some ⟨.array 12 37, 504, 672, z38, true⟩ := by rfl
def z37 : List Value := ty37.zero
theorem t37 : Cx.T 37 = some ⟨.array 14 36, 42, 56, z37, true⟩ := by rfl
def z40 : List Value := ty40.zero
theorem t40 : Cx.T 40 = some ⟨.array 4 39, 60, 80, z40, true⟩ := by rfl
def z39 : List Value := ty39.zero
theorem t39 : Cx.T 39 = some ⟨.array 5 36, 15, 20, z39, true⟩ := by rfl
theorem z42_len : z42.length = 565 := by kernel_rfl
attribute [irreducible] z42 z38 z37 z40 z39

/-- The live blocks of table.Set within its loop. -/
structure InS (vs : List Value) (hm : Bool) (s o c1 c2 c3 : Int) (st : Int) (H : Heap) : Prop where
  h0 : H[0]? = some (some ⟨42, vs.map .v, true⟩)
  h1 : H[1]? = some (some ⟨148, [bo hm, i8 s, i8 o], true⟩)
  h2 : H[2]? = some (some ⟨36, [i8 c1, i8 c2, .v (.int .u16 c3)], true⟩)
  h3 : H[3]? = some (some ⟨42, z42.map .v, true⟩)
  h4 : H[4]? = some (some ⟨100, [.v (.int .i64 0)], true⟩)
  h5 : H[5]? = some (some ⟨177, [.ptr 0 0], true⟩)
  h6 : H[6]? = some (some ⟨0, .lrec 21 [11, 12] [3, 4, 5, 6, 7] m110_l0 m110_l1 :: .v (.int .i64 st) :: .v (.int .i64 0) :: [.ptr 0 0, .ptr 1 0, .ptr 2 0, .ptr 3 0, .ptr 4 0], true⟩)
theorem InS.set {vs : List Value} {hm : Bool} {s o c1 c2 c3 st st' : Int} {H : Heap} (h : InS vs hm s o c1 c2 c3 st H) : InS vs hm s o c1 c2 c3 st' (H.set 6 (some ⟨0, .lrec 21 [11, 12] [3, 4, 5, 6, 7] m110_l0 m110_l1 :: .v (.int .i64 st') :: .v (.int .i64 0) :: [.ptr 0 0, .ptr 1 0, .ptr 2 0, .ptr 3 0, .ptr 4 0], true⟩)) :=
  ⟨set_other h.h0 (by decide), set_other h.h1 (by decide), set_other h.h2 (by decide), set_other h.h3 (by decide), set_other h.h4 (by decide), set_other h.h5 (by decide), set_same h.h6 _⟩
theorem InS.app {vs : List Value} {hm : Bool} {s o c1 c2 c3 st : Int} {H : Heap} (h : InS vs hm s o c1 c2 c3 st H) (l : Heap) : InS vs hm s o c1 c2 c3 st (H ++ l) :=
  ⟨ap_low h.h0 l, ap_low h.h1 l, ap_low h.h2 l, ap_low h.h3 l, ap_low h.h4 l, ap_low h.h5 l, ap_low h.h6 l⟩
theorem InS.rcd {vs : List Value} {hm : Bool} {s o c1 c2 c3 st : Int} {H : Heap} (h : InS vs hm s o c1 c2 c3 st H) : recOf H 6 = some ⟨21, [11, 12], [3, 4, 5, 6, 7], m110_l0, m110_l1, st, 0, [.ptr 0 0, .ptr 1 0, .ptr 2 0, .ptr 3 0, .ptr 4 0]⟩ := by
  simp only [recOf, h.h6]

theorem round_no {vs : List Value} {hm hm' : Bool} {s o c1 c2 c3 s' o' : Int} {off : Nat} {H : Heap} (h : InS vs hm s o c1 c2 c3 0 H) (hne : ¬ (hm' = hm ∧ s' = s ∧ o' = o)) {e : Env} {dst : Option Nat} {ms : List MOp} {k : List It} {Q : Ex → St → Prop}
    (hK : ∀ H', InS vs hm s o c1 c2 c3 0 H' → OpsK Cx 0 ms ⟨put e dst (bo true), H'⟩ k Q) : YlK Cx 6 [.agg [bo hm', i8 s', i8 o'], .ptr 0 off] dst ms ⟨e, H⟩ k Q := by
  have hr := h.rcd
  have hr1 := fun y => (h.app [y]).rcd
  have hg := fun (y : Option Blk) => (((h.app [y]).set (st' := 1)).h1)
  have hr2 := fun y => ((h.app [y]).set (st' := 1)).rcd
  have hg2 : ∀ (x y : Option Blk), ((H ++ [y]).set 6 x)[H.length]? = some y := fun x y => by
    rw [ap_slow h.h6, as_get0]
  have heq : (((hm' == hm) && ((s' == s) && (o' == o))) : Bool) = false := by
    cases h1 : (hm' == hm) <;> cases h2 : (s' == s) <;> cases h3 : (o' == o) <;> simp_all
  rw [ylK_in]
  simp (config := { maxSteps := 10000000 }) (disch := omega) only [roundK_some, asgR_go, asgR_some, rndR_go, rndR_some, RecA.blk, zipE, i8, bo, ap_get0, hr, u110_l0, ap_set0, hr1, u110_l1, hg, hg2, hr2, heq, runK_nil, runK_blk, runK_skip, runK_seq, runK_block, runK_cond, condK_known, runK_reg, opsK_nil, opsK_cons, wantK_yes, wants, anyK_loud, anyK_quiet, isLoud, undef, heapK_some, quietK_some, calls, opnd, look_cons, keepE, put, quietOp, loudOp, readL, partA, cellsA, one, ones, eqOp, nilEq, sameA, eqT, eqFs, K.agg, cond_false, List.length_cons, List.length_nil, List.drop_zero, List.drop_succ_cons, List.drop_nil, List.take_succ_cons, List.take_zero, List.take_nil, List.nil_append, List.append_nil, List.map_cons, List.map_nil, Option.bind_some, Bool.and_true, Nat.zero_add, and_self, true_and, eq_self, ↓reduceIte, Nat.reduceEqDiff, Nat.reduceAdd, Nat.reduceLeDiff, Nat.reduceLT, CxT4, ty4, CxT5, ty5, CxT148, ty148]
  exact hK _ (((h.app _).set).set)

theorem ones_iff : ∀ l : List A, ones l = true ↔ ∀ x ∈ l, one x = true
  | [] => by simp [ones]
  | x :: l => by simp [ones, ones_iff l]
/-- What is put into a table. -/
def putC (vs : List Value) (off : Nat) (c1 c2 c3 : Int) : List Value := vs.take off ++ [.int .u8 c1, .int .u8 c2, .int .u16 c3] ++ vs.drop (off + 3)
theorem putC_len {vs : List Value} {off : Nat} {c1 c2 c3 : Int} (hv : vs.length = 565) (ho : off + 3 ≤ 565) : (putC vs off c1 c2 c3).length = 565 := by
  simp only [putC, List.length_append, List.length_take, List.length_drop, List.length_cons, List.length_nil]
  omega
theorem putC_one {vs : List Value} {off : Nat} {c1 c2 c3 : Int} (h1 : ones (vs.map .v) = true) : ones ((putC vs off c1 c2 c3).map .v) = true := by
  rw [ones_iff] at h1 ⊢
  intro x hx
  obtain ⟨v, hv, rfl⟩ := List.mem_map.1 hx
  simp only [putC, List.mem_append, List.mem_cons, List.not_mem_nil, or_false] at hv
  rcases hv with (hv | rfl | rfl | rfl) | hv
  · exact h1 _ (List.mem_map.2 ⟨v, List.mem_of_mem_take hv, rfl⟩)
  · rfl
  · rfl
  · rfl
  · exact h1 _ (List.mem_map.2 ⟨v, List.mem_of_mem_drop hv, rfl⟩)
theorem round_yes {vs : List Value} (hv : vs.length = 565) (h1 : ones (vs.map .v) = true) {hm : Bool} {s o c1 c2 c3 : Int} {off : Nat} (ho : off + 3 ≤ 565) {H : Heap} (h : InS vs hm s o c1 c2 c3 0 H) {e : Env} {dst : Option Nat} {ms : List MOp} {k : List It} {Q : Ex → St → Prop}
    (hK : ∀ H', H'[3]? = some (some ⟨42, (putC vs off c1 c2 c3).map .v, true⟩) → H'[4]? = some (some ⟨100, [.v (.int .i64 0)], true⟩) → pending H' 6 = some .back → OpsK Cx 0 ms ⟨put e dst (bo false), H'⟩ k Q) : YlK Cx 6 [.agg [bo hm, i8 s, i8 o], .ptr 0 off] dst ms ⟨e, H⟩ k Q := by
  have hr := h.rcd
  have hr1 := fun y => (h.app [y]).rcd
  have i1 := fun (y : Option Blk) => ((h.app [y]).set (st' := 1))
  have hr2 := fun y => ((h.app [y]).set (st' := 1)).rcd
  have hg := fun (y : Option Blk) => (i1 y).h1
  have hgc := fun (y : Option Blk) => (i1 y).h2
  have hg0 := fun (y : Option Blk) => (i1 y).h0
  have hg2 : ∀ (x y : Option Blk), ((H ++ [y]).set 6 x)[H.length]? = some y := fun x y => by
    rw [ap_slow h.h6, as_get0]
  rw [ylK_in]
  simp (config := { maxSteps := 10000000 }) (disch := omega) only [roundK_some, asgR_go, asgR_some, RecA.blk, zipE, i8, bo, ap_get0, hr, u110_l0, ap_set0, hr1, u110_l1, hg, hg2, hgc, hg0, beq_self_eq_true, List.length_map, hv, ho, t42, runK_nil, runK_seq, runK_block, runK_cond, condK_known, runK_reg, opsK_nil, opsK_cons, wantK_yes, wants, anyK_loud, anyK_quiet, isLoud, beq_self_eq_true, undef, heapK_some, quietK_some, calls, opnd, look_cons, keepE, put, quietOp, loudOp, readL, partA, cellsA, one, ones, eqOp, nilEq, sameA, eqT, eqFs, K.agg, cond_true, List.length_cons, List.length_nil, List.drop_zero, List.drop_succ_cons, List.drop_nil, List.take_succ_cons, List.take_zero, List.take_nil, List.nil_append, List.append_nil, List.map_cons, List.map_nil, Option.bind_some, Bool.and_true, Nat.zero_add, and_self, true_and, eq_self, ↓reduceIte, Nat.reduceEqDiff, Nat.reduceAdd, Nat.reduceLeDiff, Nat.reduceLT, CxT4, ty4, CxT5, ty5, CxT36, ty36, CxT148, ty148]
  have hcs : List.take off (List.map A.v vs) ++ [A.v (Value.int IntKind.u8 c1), A.v (Value.int IntKind.u8 c2), A.v (Value.int IntKind.u16 c3)] ++ List.drop (off + 3) (List.map A.v vs) = (putC vs off c1 c2 c3).map .v := by simp [putC, List.map_take, List.map_drop]
  rw [hcs]
  have hpl := putC_len (c1 := c1) (c2 := c2) (c3 := c3) hv ho
  have hp1 := putC_one (off := off) (c1 := c1) (c2 := c2) (c3 := c3) h1
  generalize putC vs off c1 c2 c3 = ws at *
  have i := i1 (some ⟨148, [A.v (Value.bool hm), A.v (Value.int IntKind.u8 s), A.v (Value.int IntKind.u8 o)], true⟩)
  generalize (H ++ [some (⟨148, [A.v (Value.bool hm), A.v (Value.int IntKind.u8 s), A.v (Value.int IntKind.u8 o)], true⟩ : Blk)]).set 6 _ = W at *
  clear i1 hr hr1 hr2 hg hgc hg0 hg2
  have f0 : ∀ x, (W.set 0 x)[0]? = some x := fun x => set_same i.h0 x
  have f3 : ∀ x, (W.set 0 x)[3]? = some (some ⟨42, z42.map .v, true⟩) := fun x => set_other i.h3 (by decide)
  have f3s : ∀ x y, ((W.set 0 x).set 3 y)[3]? = some y := fun x y => set_same (f3 x) y
  have f4 : ∀ x y, ((W.set 0 x).set 3 y)[4]? = some (some ⟨100, [.v (.int .i64 0)], true⟩) := fun x y => set_other (set_other i.h4 (by decide)) (by decide)
  have f6 : ∀ x y z, (((W.set 0 x).set 3 y).set 4 z)[6]? = W[6]? := fun x y z => by
    rw [List.getElem?_set_ne (by decide), List.getElem?_set_ne (by decide), List.getElem?_set_ne (by decide)]
  have fr : ∀ x y z, recOf (((W.set 0 x).set 3 y).set 4 z) 6 = some ⟨21, [11, 12], [3, 4, 5, 6, 7], m110_l0, m110_l1, 1, 0, [.ptr 0 0, .ptr 1 0, .ptr 2 0, .ptr 3 0, .ptr 4 0]⟩ := fun x y z => by
    simp only [recOf, f6, i.h6]
  have ht : List.take 565 (List.map A.v ws) = List.map A.v ws := List.take_of_length_le (by simp [hpl])
  have hd : List.drop 565 (List.map A.v z42) = [] := List.drop_of_length_le (by simp [z42_len])
  simp (config := { maxSteps := 10000000 }) (disch := omega) only [rndR_back, rndR_some, RecA.blk, f0, f3, f4, fr, List.length_map, hpl, hp1, z42_len, ht, hd, t42, unwK_nil, unwK_ret_blk, runK_ret, opsK_nil, opsK_cons, wantK_yes, wants, anyK_loud, isLoud, undef, heapK_some, quietK_some, calls, opnd, ofV, look_cons, put, loudOp, cellsA, one, ones, List.length_cons, List.length_nil, List.drop_succ_cons, List.drop_nil, List.take_zero, List.nil_append, List.append_nil, Bool.and_true, Nat.zero_add, and_self, eq_self, ↓reduceIte, Nat.reduceEqDiff, Nat.reduceLeDiff, CxT100, ty100]
  refine hK _ ?_ ?_ ?_
  · rw [List.getElem?_set_ne (by decide), List.getElem?_set_ne (by decide)]
    exact f3s _ _
  · rw [List.getElem?_set_ne (by decide)]
    exact set_same (f4 _ _) _
  · simp only [pending, recOf]
    rw [set_same ((f6 _ _ _).trans i.h6)]
    simp [exOfN]
end Go.Proofs.YtnhknhniemfnjaaGreatDoor.Ev
