/- Names for the evaluator's values; laws of heaps; the great types' zeros held; a context in which more is known. -/
import Derived.Test.YtnhknhniemfnjaaGreatDoorCC
set_option linter.unusedSimpArgs false
set_option linter.unusedVariables false
namespace Go.Proofs.YtnhknhniemfnjaaGreatDoor.Ev
open Go Go.RowKit
abbrev i8 (n : Int) : A := .v (.int .u8 n)
abbrev i64 (n : Int) : A := .v (.int .i64 n)
abbrev bo (b : Bool) : A := .v (.bool b)
section
variable {α : Type}
theorem ap_get0 (H : List α) (x : α) (l : List α) : (H ++ x :: l)[H.length]? = some x := by simp
theorem ap_set0 (H : List α) (x y : α) (l : List α) : (H ++ x :: l).set H.length y = H ++ y :: l := by simp
theorem ap_low {H : List α} {i : Nat} {a : α} (h : H[i]? = some a) (l : List α) : (H ++ l)[i]? = some a := by
  rw [List.getElem?_append_left (List.getElem?_eq_some_iff.1 h).1]; exact h
theorem ap_slow {H : List α} {i : Nat} {a : α} (h : H[i]? = some a) (l : List α) (y : α) : (H ++ l).set i y = H.set i y ++ l := by
  rw [List.set_append_left _ _ (List.getElem?_eq_some_iff.1 h).1]
theorem as_get0 (H : List α) (i : Nat) (z x : α) (l : List α) : (H.set i z ++ x :: l)[H.length]? = some x := by
  have := ap_get0 (H.set i z) x l
  rwa [List.length_set] at this
theorem set_same {H : List α} {i : Nat} {a : α} (h : H[i]? = some a) (y : α) : (H.set i y)[i]? = some y := List.getElem?_set_self (List.getElem?_eq_some_iff.1 h).1
theorem set_other {H : List α} {i j : Nat} {a y : α} (h : H[i]? = some a) (hne : j ≠ i) : (H.set j y)[i]? = some a := by rw [List.getElem?_set_ne hne]; exact h
theorem len_of {H : List α} {i : Nat} {a : α} (h : H[i]? = some a) : i < H.length := (List.getElem?_eq_some_iff.1 h).1
theorem ap_getk' (H l : List α) (k : Nat) : (H ++ l)[H.length + k]? = l[k]? := by
  rw [List.getElem?_append_right (by omega), Nat.add_sub_cancel_left]
theorem as_getk (H l : List α) (i : Nat) (z : α) (k : Nat) : (H.set i z ++ l)[H.length + k]? = l[k]? := by
  have := ap_getk' (H.set i z) l k
  rwa [List.length_set] at this
theorem ap_setk' (H l : List α) (k : Nat) (y : α) : (H ++ l).set (H.length + k) y = H ++ l.set k y := by
  rw [List.set_append_right _ _ (by omega), Nat.add_sub_cancel_left]
end
theorem wrap8 (n : Int) : IntKind.u8.wrap n = n % 256 := by
  simp [IntKind.wrap, IntKind.bits, IntKind.signed]
def z85 : List Value := (ty85).zero
theorem t85 : Cx.T 85 = some ⟨.array 4 84, 128, 128, z85, true⟩ := by rfl
def z42 : List Value := ty42.zero
theorem t42 : Cx.T 42 = some ⟨.struct [(9, 0, true), (38, 1, true), (40, 505, true)], 565, 768, z42, true⟩ := by rfl
def z38 : List Value := ty38.zero
theorem t38 : Cx.T 38 = some ⟨.array 12 37, 504, 672, z38, true⟩ := by rfl
def z37 : List Value := ty37.zero
theorem t37 : Cx.T 37 = some ⟨.array 14 36, 42, 56, z37, true⟩ := by rfl
def z40 : List Value := ty40.zero
theorem t40 : Cx.T 40 = some ⟨.array 4 39, 60, 80, z40, true⟩ := by rfl
def z39 : List Value := ty39.zero
theorem t39 : Cx.T 39 = some ⟨.array 5 36, 15, 20, z39, true⟩ := by rfl
theorem z42_len : z42.length = 565 := by kernel_rfl
def CA (X : FuncId → List A → Option A) : Ctx := ⟨Cx.T, Cx.B, X, fun _ => none⟩
theorem CA_ok {X : FuncId → List A → Option A} (h : QOk Cx.T Tryz.prog X) : CtxOk Tryz.prog (CA X) := ⟨CxOk.mixed, CxOk.types, CxOk.loops, CxOk.fns, h, fun _ _ _ _ _ _ h => by cases h⟩
theorem CA_T {X : FuncId → List A → Option A} : (CA X).T = Cx.T := rfl
attribute [irreducible] z85 z42 z38 z37 z40 z39
attribute [go_sem] i8 i64 bo ap_get0 ap_set0 ap_getk' ap_setk' t85 t42 t38 t37 t40 t39
end Go.Proofs.YtnhknhniemfnjaaGreatDoor.Ev
namespace Go.Proofs.YtnhknhniemfnjaaGreatDoor.Ev
open Go Go.RowKit
set_option maxRecDepth 100000
structure InS (vs : List Value) (hm : Bool) (s o c1 c2 c3 : Int) (st : Int) (H : Heap) : Prop where
  h0 : H[0]? = some (some ⟨42, vs.map .v, true⟩)
  h1 : H[1]? = some (some ⟨148, [bo hm, i8 s, i8 o], true⟩)
  h2 : H[2]? = some (some ⟨36, [i8 c1, i8 c2, .v (.int .u16 c3)], true⟩)
  h3 : H[3]? = some (some ⟨42, z42.map .v, true⟩)
  h4 : H[4]? = some (some ⟨100, [.v (.int .i64 0)], true⟩)
  h5 : H[5]? = some (some ⟨177, [.ptr 0 0], true⟩)
  h6 : H[6]? = some (some ⟨0, .lrec 21 [11, 12] [3, 4, 5, 6, 7] m110_l0 m110_l1 :: .v (.int .i64 st) :: .v (.int .i64 0) :: [.ptr 0 0, .ptr 1 0, .ptr 2 0, .ptr 3 0, .ptr 4 0], true⟩)
theorem InS.set {vs : List Value} {hm : Bool} {s o c1 c2 c3 st st' : Int} {H : Heap} (h : InS vs hm s o c1 c2 c3 st H) : InS vs hm s o c1 c2 c3 st' (H.set 6 (some ⟨0, .lrec 21 [11, 12] [3, 4, 5, 6, 7] m110_l0 m110_l1 :: .v (.int .i64 st') :: .v (.int .i64 0) :: [.ptr 0 0, .ptr 1 0, .ptr 2 0, .ptr 3 0, .ptr 4 0], true⟩)) :=
  ⟨set_other h.h0 (by decide), set_other h.h1 (by decide), set_other h.h2 (by decide), set_other h.h3 (by decide), set_other h.h4 (by decide), set_other h.h5 (by decide), set_same h.h6 _⟩
theorem InS.app {vs : List Value} {hm : Bool} {s o c1 c2 c3 st : Int} {H : Heap} (h : InS vs hm s o c1 c2 c3 st H) (l : Heap) : InS vs hm s o c1 c2 c3 st (H ++ l) :=
  ⟨ap_low h.h0 l, ap_low h.h1 l, ap_low h.h2 l, ap_low h.h3 l, ap_low h.h4 l, ap_low h.h5 l, ap_low h.h6 l⟩
theorem InS.rcd {vs : List Value} {hm : Bool} {s o c1 c2 c3 st : Int} {H : Heap} (h : InS vs hm s o c1 c2 c3 st H) : recOf H 6 = some ⟨21, [11, 12], [3, 4, 5, 6, 7], m110_l0, m110_l1, st, 0, [.ptr 0 0, .ptr 1 0, .ptr 2 0, .ptr 3 0, .ptr 4 0]⟩ := by
  simp only [recOf, h.h6]
theorem round_no {vs : List Value} {hm hm' : Bool} {s o c1 c2 c3 s' o' : Int} {off : Nat} {H : Heap} (h : InS vs hm s o c1 c2 c3 0 H) (hne : ¬ (hm' = hm ∧ s' = s ∧ o' = o)) {e : Env} {dst : Option Nat} {ms : List MOp} {k : List It} {Q : Ex → St → Prop}
    (hK : ∀ H', InS vs hm s o c1 c2 c3 0 H' → OpsK Cx 0 ms ⟨put e dst (bo true), H'⟩ k Q) : YlK Cx 6 [.agg [bo hm', i8 s', i8 o'], .ptr 0 off] dst ms ⟨e, H⟩ k Q := by
  have hr := h.rcd
  have hr1 := fun y => (h.app [y]).rcd
  have hg := fun (y : Option Blk) => (((h.app [y]).set (st' := 1)).h1)
  have hr2 := fun y => ((h.app [y]).set (st' := 1)).rcd
  have hg2 : ∀ (x y : Option Blk), ((H ++ [y]).set 6 x)[H.length]? = some y := fun x y => by
    rw [ap_slow h.h6, as_get0]
  have heq : (((hm' == hm) && ((s' == s) && (o' == o))) : Bool) = false := by
    cases h1 : (hm' == hm) <;> cases h2 : (s' == s) <;> cases h3 : (o' == o) <;> simp_all
  rw [ylK_in]
  simp (disch := omega) only [go_sem, runK_rf, rfK_fn, callK_in, endK_go, endK_back, exK_go, exK_out, exK_back, pendK_some, anyK_yl, ylK_in, roundK_some, asgR_go, asgR_some, rndR_go, rndR_out, rndR_back, rndR_some, RecA.blk, zipE, newRecA, hr, hr1, hg, hg2, hr2, heq, simprocAttr]
  exact hK _ (((h.app _).set).set)
theorem ones_iff : ∀ l : List A, ones l = true ↔ ∀ x ∈ l, one x = true
  | [] => by simp [ones]
  | x :: l => by simp [ones, ones_iff l]
def putC (vs : List Value) (off : Nat) (c1 c2 c3 : Int) : List Value := vs.take off ++ [.int .u8 c1, .int .u8 c2, .int .u16 c3] ++ vs.drop (off + 3)
theorem putC_len {vs : List Value} {off : Nat} {c1 c2 c3 : Int} (hv : vs.length = 565) (ho : off + 3 ≤ 565) : (putC vs off c1 c2 c3).length = 565 := by
  simp only [putC, List.length_append, List.length_take, List.length_drop, List.length_cons, List.length_nil]
  omega
theorem putC_one {vs : List Value} {off : Nat} {c1 c2 c3 : Int} (h1 : ones (vs.map .v) = true) : ones ((putC vs off c1 c2 c3).map .v) = true := by
  rw [ones_iff] at h1 ⊢
  intro x hx
  obtain ⟨v, hv, rfl⟩ := List.mem_map.1 hx
  simp only [putC, List.mem_append, List.mem_cons, List.not_mem_nil, or_false] at hv
  rcases hv with (hv | rfl | rfl | rfl) | hv
  · exact h1 _ (List.mem_map.2 ⟨v, List.mem_of_mem_take hv, rfl⟩)
  · rfl
  · rfl
  · rfl
  · exact h1 _ (List.mem_map.2 ⟨v, List.mem_of_mem_drop hv, rfl⟩)
theorem round_yes {vs : List Value} (hv : vs.length = 565) (h1 : ones (vs.map .v) = true) {hm : Bool} {s o c1 c2 c3 : Int} {off : Nat} (ho : off + 3 ≤ 565) {H : Heap} (h : InS vs hm s o c1 c2 c3 0 H) {e : Env} {dst : Option Nat} {ms : List MOp} {k : List It} {Q : Ex → St → Prop}
    (hK : ∀ H', H'[3]? = some (some ⟨42, (putC vs off c1 c2 c3).map .v, true⟩) → H'[4]? = some (some ⟨100, [.v (.int .i64 0)], true⟩) → pending H' 6 = some .back → OpsK Cx 0 ms ⟨put e dst (bo false), H'⟩ k Q) : YlK Cx 6 [.agg [bo hm, i8 s, i8 o], .ptr 0 off] dst ms ⟨e, H⟩ k Q := by
  have hr := h.rcd
  have hr1 := fun y => (h.app [y]).rcd
  have i1 := fun (y : Option Blk) => ((h.app [y]).set (st' := 1))
  have hr2 := fun y => ((h.app [y]).set (st' := 1)).rcd
  have hg := fun (y : Option Blk) => (i1 y).h1
  have hgc := fun (y : Option Blk) => (i1 y).h2
  have hg0 := fun (y : Option Blk) => (i1 y).h0
  have hg2 : ∀ (x y : Option Blk), ((H ++ [y]).set 6 x)[H.length]? = some y := fun x y => by
    rw [ap_slow h.h6, as_get0]
  rw [ylK_in]
  simp (disch := omega) only [go_sem, runK_rf, rfK_fn, callK_in, endK_go, endK_back, exK_go, exK_out, exK_back, pendK_some, anyK_yl, ylK_in, roundK_some, asgR_go, asgR_some, rndR_go, rndR_out, rndR_back, rndR_some, RecA.blk, zipE, newRecA, hr, hr1, hg, hg2, hr2, hgc, hg0, beq_self_eq_true, List.length_map, hv, ho, t42, simprocAttr]
  have hcs : List.take off (List.map A.v vs) ++ [A.v (Value.int IntKind.u8 c1), A.v (Value.int IntKind.u8 c2), A.v (Value.int IntKind.u16 c3)] ++ List.drop (off + 3) (List.map A.v vs) = (putC vs off c1 c2 c3).map .v := by simp [putC, List.map_take, List.map_drop]
  rw [hcs]
  have hpl := putC_len (c1 := c1) (c2 := c2) (c3 := c3) hv ho
  have hp1 := putC_one (off := off) (c1 := c1) (c2 := c2) (c3 := c3) h1
  generalize putC vs off c1 c2 c3 = ws at *
  have i := i1 (some ⟨148, [A.v (Value.bool hm), A.v (Value.int IntKind.u8 s), A.v (Value.int IntKind.u8 o)], true⟩)
  generalize (H ++ [some (⟨148, [A.v (Value.bool hm), A.v (Value.int IntKind.u8 s), A.v (Value.int IntKind.u8 o)], true⟩ : Blk)]).set 6 _ = W at *
  clear i1 hr hr1 hr2 hg hgc hg0 hg2
  have f0 : ∀ x, (W.set 0 x)[0]? = some x := fun x => set_same i.h0 x
  have f3 : ∀ x, (W.set 0 x)[3]? = some (some ⟨42, z42.map .v, true⟩) := fun x => set_other i.h3 (by decide)
  have f3s : ∀ x y, ((W.set 0 x).set 3 y)[3]? = some y := fun x y => set_same (f3 x) y
  have f4 : ∀ x y, ((W.set 0 x).set 3 y)[4]? = some (some ⟨100, [.v (.int .i64 0)], true⟩) := fun x y => set_other (set_other i.h4 (by decide)) (by decide)
  have f6 : ∀ x y z, (((W.set 0 x).set 3 y).set 4 z)[6]? = W[6]? := fun x y z => by
    rw [List.getElem?_set_ne (by decide), List.getElem?_set_ne (by decide), List.getElem?_set_ne (by decide)]
  have fr : ∀ x y z, recOf (((W.set 0 x).set 3 y).set 4 z) 6 = some ⟨21, [11, 12], [3, 4, 5, 6, 7], m110_l0, m110_l1, 1, 0, [.ptr 0 0, .ptr 1 0, .ptr 2 0, .ptr 3 0, .ptr 4 0]⟩ := fun x y z => by
    simp only [recOf, f6, i.h6]
  have ht : List.take 565 (List.map A.v ws) = List.map A.v ws := List.take_of_length_le (by simp [hpl])
  have hd : List.drop 565 (List.map A.v z42) = [] := List.drop_of_length_le (by simp [z42_len])
  simp (disch := omega) only [go_sem, runK_rf, rfK_fn, callK_in, endK_go, endK_back, exK_go, exK_out, exK_back, pendK_some, anyK_yl, ylK_in, roundK_some, asgR_go, asgR_some, rndR_go, rndR_out, rndR_back, rndR_some, RecA.blk, zipE, newRecA, f0, f3, f4, fr, List.length_map, hpl, hp1, z42_len, ht, hd, t42, simprocAttr]
  refine hK _ ?_ ?_ ?_
  · rw [List.getElem?_set_ne (by decide), List.getElem?_set_ne (by decide)]
    exact f3s _ _
  · rw [List.getElem?_set_ne (by decide)]
    exact set_same (f4 _ _) _
  · simp only [pending, recOf]
    rw [set_same ((f6 _ _ _).trans i.h6)]
    simp [exOfN]
end Go.Proofs.YtnhknhniemfnjaaGreatDoor.Ev
namespace Go.Proofs.YtnhknhniemfnjaaGreatDoor.Ev
open Go Go.RowKit
set_option maxRecDepth 100000
def placeA (i : Nat) : A := if i < 168 then .agg [bo false, i8 (i / 14 : Nat), i8 (i % 14 : Nat)] else .agg [bo true, i8 ((i - 168) / 5 : Nat), i8 ((i - 168) % 5 : Nat)]
structure CellsIt (b tb c : Nat) (I : Nat → Heap → Prop) (F : Heap → Prop) : Prop where
  cap : ∀ i H, I i H → H[c]? = some (some ⟨177, [.ptr tb 0], true⟩)
  round : ∀ i H, i < 188 → I i H → ∀ (e : Env) (dst : Option Nat) (ms : List MOp) (k : List It) (Q : Ex → St → Prop), (∀ H', I (i + 1) H' → OpsK Cx 0 ms ⟨put e dst (bo true), H'⟩ k Q) → (∀ H', F H' → OpsK Cx 0 ms ⟨put e dst (bo false), H'⟩ k Q) →
    YlK Cx b [placeA i, .ptr tb (1 + 3 * i)] dst ms ⟨e, H⟩ k Q
variable {b tb c : Nat} {I : Nat → Heap → Prop} {F : Heap → Prop}
theorem place_c {x y : Nat} (hx : x < 12) (hy : y < 14) : placeA (14 * x + y) = .agg [bo false, i8 x, i8 y] := by
  unfold placeA
  rw [if_pos (by omega), show (14 * x + y) / 14 = x by omega, show (14 * x + y) % 14 = y by omega]
theorem place_h {x y : Nat} (hy : y < 5) : placeA (168 + (5 * x + y)) = .agg [bo true, i8 x, i8 y] := by
  unfold placeA
  rw [if_neg (by omega), show (168 + (5 * x + y) - 168) / 5 = x by omega, show (168 + (5 * x + y) - 168) % 5 = y by omega]
theorem inner1 (h : CellsIt b tb c I F) {x : Nat} (hx : x < 12) {KK : List It} {Q : Ex → St → Prop} (hret : ∀ H' e', F H' → UnwK Cx .back KK ⟨e', H'⟩ Q)
    (hexit : ∀ H', I (14 * x + 14) H' → UnwK Cx (.out 2) KK ⟨[(11, bo false), (0, .yl b), (1, .ptr c 0), (3, i64 x), (7, i64 x), (10, i64 14)], H'⟩ Q) :
    ∀ (n y : Nat) (H : Heap), y + n = 14 → I (14 * x + y) H → RunK Cx (.code (.loop m164_l1) :: KK) ⟨[(0, .yl b), (1, .ptr c 0), (3, i64 x), (7, i64 x), (10, i64 y)], H⟩ Q := by
  intro n
  induction n with
  | zero =>
    intro y H hy hI
    obtain rfl : y = 14 := by omega
    rw [runK_loop]
    simp (disch := omega) only [go_sem, simprocAttr]
    exact hexit H hI
  | succ n ih =>
    intro y H hy hI
    have hcap := h.cap _ H hI
    rw [runK_loop]
    simp (disch := omega) only [go_sem, anyK_yl, hcap, t42, t38, t37, simprocAttr]
    have ep : [A.agg [A.v (Value.bool false), A.v (Value.int IntKind.u8 ↑x), A.v (Value.int IntKind.u8 ↑y)], A.ptr tb (1 + x * 42 + y * 3)] = [placeA (14 * x + y), .ptr tb (1 + 3 * (14 * x + y))] := by
      rw [place_c hx (by omega), show 1 + x * 42 + y * 3 = 1 + 3 * (14 * x + y) by omega]
    rw [ep]
    refine h.round _ H (by omega) hI _ _ _ _ _ (fun H' hI' => ?_) (fun H' hF => ?_)
    · simp (disch := omega) only [go_sem, simprocAttr]
      rw [loop_norm (l := [0, 1, 3, 7, 10]) rfl]
      simp (disch := omega) only [go_sem, simprocAttr]
      have := ih (y + 1) H' (by omega) (by rwa [show 14 * x + (y + 1) = 14 * x + y + 1 by omega])
      simpa only [i64, Int.natCast_add, Int.natCast_one] using this
    · simp (disch := omega) only [go_sem, simprocAttr]
      exact hret _ _ hF
theorem outer1 (h : CellsIt b tb c I F) {KK : List It} {Q : Ex → St → Prop} (hret : ∀ H' e', F H' → UnwK Cx .back KK ⟨e', H'⟩ Q)
    (hexit : ∀ H', I 168 H' → UnwK Cx (.out 0) KK ⟨[(8, bo false), (0, .yl b), (1, .ptr c 0), (7, i64 12)], H'⟩ Q) :
    ∀ (n x : Nat) (H : Heap), x + n = 12 → I (14 * x) H → RunK Cx (.code (.loop m164_l0) :: KK) ⟨[(0, .yl b), (1, .ptr c 0), (7, i64 x)], H⟩ Q := by
  intro n
  induction n with
  | zero =>
    intro x H hx hI
    obtain rfl : x = 12 := by omega
    rw [runK_loop]
    simp (disch := omega) only [go_sem, simprocAttr]
    exact hexit H hI
  | succ n ih =>
    intro x H hx hI
    rw [runK_loop]
    simp (disch := omega) only [go_sem, simprocAttr]
    rw [loop_norm (l := [0, 1, 3, 7, 10]) rfl]
    simp (disch := omega) only [go_sem, simprocAttr]
    refine inner1 h (by omega) (fun H' e' hF => ?_) (fun H' hI' => ?_) 14 0 H rfl hI
    · simp (disch := omega) only [go_sem, simprocAttr]
      exact hret _ _ hF
    · simp (disch := omega) only [go_sem, simprocAttr]
      rw [loop_norm (l := [0, 1, 7]) rfl]
      simp (disch := omega) only [go_sem, simprocAttr]
      have := ih (x + 1) H' (by omega) (by rwa [show 14 * (x + 1) = 14 * x + 14 by omega])
      simpa only [i64, Int.natCast_add, Int.natCast_one] using this
theorem inner2 (h : CellsIt b tb c I F) {x : Nat} (hx : x < 4) {KK : List It} {Q : Ex → St → Prop} (hret : ∀ H' e', F H' → UnwK Cx .back KK ⟨e', H'⟩ Q)
    (hexit : ∀ H', I (168 + (5 * x + 5)) H' → UnwK Cx (.out 6) KK ⟨[(34, bo false), (0, .yl b), (1, .ptr c 0), (5, i64 x), (30, i64 x), (33, i64 5)], H'⟩ Q) :
    ∀ (n y : Nat) (H : Heap), y + n = 5 → I (168 + (5 * x + y)) H → RunK Cx (.code (.loop m164_l3) :: KK) ⟨[(0, .yl b), (1, .ptr c 0), (5, i64 x), (30, i64 x), (33, i64 y)], H⟩ Q := by
  intro n
  induction n with
  | zero =>
    intro y H hy hI
    obtain rfl : y = 5 := by omega
    rw [runK_loop]
    simp (disch := omega) only [go_sem, simprocAttr]
    exact hexit H hI
  | succ n ih =>
    intro y H hy hI
    have hcap := h.cap _ H hI
    rw [runK_loop]
    simp (disch := omega) only [go_sem, anyK_yl, hcap, t42, t40, t39, simprocAttr]
    have ep : [A.agg [A.v (Value.bool true), A.v (Value.int IntKind.u8 ↑x), A.v (Value.int IntKind.u8 ↑y)], A.ptr tb (505 + x * 15 + y * 3)] = [placeA (168 + (5 * x + y)), .ptr tb (1 + 3 * (168 + (5 * x + y)))] := by
      rw [place_h (by omega), show 505 + x * 15 + y * 3 = 1 + 3 * (168 + (5 * x + y)) by omega]
    rw [ep]
    refine h.round _ H (by omega) hI _ _ _ _ _ (fun H' hI' => ?_) (fun H' hF => ?_)
    · simp (disch := omega) only [go_sem, simprocAttr]
      rw [loop_norm (l := [0, 1, 5, 30, 33]) rfl]
      simp (disch := omega) only [go_sem, simprocAttr]
      have := ih (y + 1) H' (by omega) (by rwa [show 168 + (5 * x + (y + 1)) = 168 + (5 * x + y) + 1 by omega])
      simpa only [i64, Int.natCast_add, Int.natCast_one] using this
    · simp (disch := omega) only [go_sem, simprocAttr]
      exact hret _ _ hF
theorem outer2 (h : CellsIt b tb c I F) {KK : List It} {Q : Ex → St → Prop} (hret : ∀ H' e', F H' → UnwK Cx .back KK ⟨e', H'⟩ Q)
    (hexit : ∀ H', I 188 H' → UnwK Cx (.out 4) KK ⟨[(31, bo false), (0, .yl b), (1, .ptr c 0), (30, i64 4)], H'⟩ Q) :
    ∀ (n x : Nat) (H : Heap), x + n = 4 → I (168 + 5 * x) H → RunK Cx (.code (.loop m164_l2) :: KK) ⟨[(0, .yl b), (1, .ptr c 0), (30, i64 x)], H⟩ Q := by
  intro n
  induction n with
  | zero =>
    intro x H hx hI
    obtain rfl : x = 4 := by omega
    rw [runK_loop]
    simp (disch := omega) only [go_sem, simprocAttr]
    exact hexit H hI
  | succ n ih =>
    intro x H hx hI
    rw [runK_loop]
    simp (disch := omega) only [go_sem, simprocAttr]
    rw [loop_norm (l := [0, 1, 5, 30, 33]) rfl]
    simp (disch := omega) only [go_sem, simprocAttr]
    refine inner2 h (by omega) (fun H' e' hF => ?_) (fun H' hI' => ?_) 5 0 H rfl hI
    · simp (disch := omega) only [go_sem, simprocAttr]
      exact hret _ _ hF
    · simp (disch := omega) only [go_sem, simprocAttr]
      rw [loop_norm (l := [0, 1, 30]) rfl]
      simp (disch := omega) only [go_sem, simprocAttr]
      have := ih (x + 1) H' (by omega) (by rwa [show 168 + 5 * (x + 1) = 168 + (5 * x + 5) by omega])
      simpa only [i64, Int.natCast_add, Int.natCast_one] using this
theorem cells_call (h : CellsIt b tb c I F) {H : Heap} (h0 : I 0 H) {Q : A → Heap → Prop} (hall : ∀ H' x, I 188 H' → Q x H') (hout : ∀ H' x, F H' → Q x H') : CallK Cx 164 [.yl b, .ptr c 0] H Q := by
  rw [callK_in CxB164 CxP164]
  refine ⟨by simp [fn164], ?_⟩
  simp (disch := omega) only [go_sem, simprocAttr]
  rw [loop_norm (l := [0, 1, 7]) rfl]
  simp (disch := omega) only [go_sem, simprocAttr]
  refine outer1 h (fun H' e' hF => ?_) (fun H' hI' => ?_) 12 0 H rfl h0
  · simp (disch := omega) only [go_sem, simprocAttr, endK_back]
    exact ⟨_, rfl, hout _ _ hF⟩
  · simp (disch := omega) only [go_sem, simprocAttr]
    rw [loop_norm (l := [0, 1, 30]) rfl]
    simp (disch := omega) only [go_sem, simprocAttr]
    refine outer2 h (fun H' e' hF => ?_) (fun H' hI' => ?_) 4 0 H' rfl hI'
    · simp (disch := omega) only [go_sem, simprocAttr, endK_back]
      exact ⟨_, rfl, hout _ _ hF⟩
    · simp (disch := omega) only [go_sem, simprocAttr, endK_go]
      exact ⟨_, rfl, hall _ _ hI'⟩
end Go.Proofs.YtnhknhniemfnjaaGreatDoor.Ev
namespace Go.Proofs.YtnhknhniemfnjaaGreatDoor.Ev
open Go Go.RowKit
set_option maxRecDepth 100000
theorem fz_vals {H : Heap} {n : Nat} : ∀ vs : List Value, mapO (freeze H (n + 1)) (vs.map .v) = some (vs.map .v)
  | [] => rfl
  | v :: vs => by
    rw [List.map_cons, mapO_cons, fz_v, fz_vals vs]
def pH (i : Nat) : Bool := bif Nat.blt i 168 then false else true
def pS (i : Nat) : Nat := bif Nat.blt i 168 then i / 14 else (i - 168) / 5
def pO (i : Nat) : Nat := bif Nat.blt i 168 then i % 14 else (i - 168) % 5
theorem blt_of {i : Nat} (h : i < 168) : Nat.blt i 168 = true := Nat.ble_eq_true_of_le h
theorem blt_not {i : Nat} (h : ¬ i < 168) : Nat.blt i 168 = false := by
  cases hb : Nat.blt i 168 with
  | false => rfl
  | true => exact absurd (Nat.le_of_ble_eq_true hb) h
theorem place_parts (i : Nat) : placeA i = .agg [bo (pH i), i8 (pS i : Nat), i8 (pO i : Nat)] := by
  unfold placeA pH pS pO
  by_cases h : i < 168
  · rw [if_pos h, blt_of h]
    rfl
  · rw [if_neg h, blt_not h]
    rfl
theorem place_inj {i j : Nat} (h1 : pH i = pH j) (h2 : pS i = pS j) (h3 : pO i = pO j) : i = j := by
  unfold pH at h1
  unfold pS at h2
  unfold pO at h3
  by_cases hi : i < 168 <;> by_cases hj : j < 168 <;> simp only [hi, hj, blt_of, blt_not, cond_true, cond_false, not_false_eq_true] at h1 h2 h3
  · omega
  · cases h1
  · cases h1
  · omega
theorem set_cells {vs : List Value} (hv : vs.length = 565) (h1 : ones (vs.map .v) = true) {i : Nat} (hi : i < 188) (c1 c2 c3 : Int) :
    CellsIt 6 0 5 (fun j H => InS vs (pH i) (pS i : Nat) (pO i : Nat) c1 c2 c3 0 H ∧ j ≤ i) (fun H' => H'[3]? = some (some ⟨42, (putC vs (1 + 3 * i) c1 c2 c3).map .v, true⟩) ∧ H'[4]? = some (some ⟨100, [.v (.int .i64 0)], true⟩) ∧ pending H' 6 = some .back) := by
  refine ⟨fun j H h => h.1.h5, fun j H hj h e dst ms k Q hyes hno => ?_⟩
  rw [place_parts]
  by_cases hij : j = i
  · subst hij
    exact round_yes hv h1 (by omega) h.1 fun H' a1 a2 a3 => hno H' ⟨a1, a2, a3⟩
  · refine round_no h.1 ?_ fun H' a1 => hyes H' ⟨a1, by have := h.2; omega⟩
    rintro ⟨e1, e2, e3⟩
    exact hij (place_inj e1 (by exact_mod_cast e2) (by exact_mod_cast e3))
theorem set_ev {vs : List Value} (hv : vs.length = 565) (h1 : ones (vs.map .v) = true) {i : Nat} (hi : i < 188) (c1 c2 c3 : Int) :
    EvQ Cx 110 [.agg (vs.map .v), placeA i, .agg [i8 c1, i8 c2, .v (.int .u16 c3)]] (.tup [.agg ((putC vs (1 + 3 * i) c1 c2 c3).map .v), i64 0]) := by
  rw [place_parts]
  refine evQ_of CxB110 rfl (by simp [fn110]) ?_
  simp (disch := omega) only [go_sem, h1, t42, runK_rf, rfK_fn, newRecA, passK_in CxB147 CxP147, simprocAttr]
  refine cells_call (set_cells hv h1 hi c1 c2 c3) ⟨⟨rfl, rfl, rfl, rfl, rfl, rfl, rfl⟩, by omega⟩ (fun H' x h => ?_) (fun H' x h => ?_)
  · have := h.2
    omega
  · obtain ⟨k1, k2, k3⟩ := h
    have hl := putC_len (c1 := c1) (c2 := c2) (c3 := c3) hv (show 1 + 3 * i + 3 ≤ 565 by omega)
    have f3 : (H'.set 6 none)[3]? = some (some ⟨42, (putC vs (1 + 3 * i) c1 c2 c3).map .v, true⟩) := set_other k1 (by decide)
    have f4 : (H'.set 6 none)[4]? = some (some ⟨100, [.v (.int .i64 0)], true⟩) := set_other k2 (by decide)
    generalize putC vs (1 + 3 * i) c1 c2 c3 = ws at *
    have ht : List.take 565 (List.map A.v ws) = List.map A.v ws := List.take_of_length_le (by simp [hl])
    simp (disch := omega) only [go_sem, k3, pendK_some, exK_back, f3, f4, List.length_map, hl, ht, t42, fz_vals, simprocAttr]
end Go.Proofs.YtnhknhniemfnjaaGreatDoor.Ev
namespace Go.Proofs.YtnhknhniemfnjaaGreatDoor.Ev
open Go Go.RowKit
set_option maxRecDepth 100000
def nextO : List A → Heap → Option (A × Heap)
  | [.ptr b off], H => match H[b]? with
    | some (some k) => match k.cs[off]? with
      | some (.sl n cs) => match n, cs with
        | 0, [] => some (.v (.string ⟨#[]⟩), H)
        | n + 1, c :: cs => bif Nat.beq cs.length n then some (c, H.set b (some ⟨k.e, k.cs.take off ++ [.sl n cs] ++ k.cs.drop (off + 1), k.whole⟩)) else none
        | _, _ => none
      | _ => none
    | _ => none
  | _, _ => none
theorem callK_evO {C : Ctx} {f : FuncId} {l : List A} {H H' : Heap} {x : A} (h : CallK C f l H fun y K => y = x ∧ K = H') : EvO C f l H x H' := by
  obtain ⟨y, K, h1, rfl, rfl⟩ := h
  exact h1
theorem next_ev {l : List A} {H H' : Heap} {x : A} (h : nextO l H = some (x, H')) : EvO Cx 145 l H x H' := by
  unfold nextO at h
  split at h
  · rename_i b off
    split at h
    · rename_i k hb
      split at h
      · rename_i n cs hcs
        obtain ⟨e, cs0, w⟩ := k
        simp only at hcs h
        obtain ⟨hlt, hget⟩ := List.getElem?_eq_some_iff.1 hcs
        have hd : List.drop off cs0 = .sl n cs :: List.drop (off + 1) cs0 := by
          rw [← hget]
          exact List.drop_eq_getElem_cons hlt
        split at h
        · simp only [Option.some.injEq, Prod.mk.injEq] at h
          obtain ⟨rfl, rfl⟩ := h
          refine callK_evO ?_
          rw [callK_in CxB145 CxP145]
          refine ⟨by simp [fn145], ?_⟩
          simp (disch := omega) only [go_sem, hb, hd, endK_back, simprocAttr]
          refine ⟨_, rfl, ?_⟩
          simp
        · rename_i n c cs
          cases hl : Nat.beq cs.length n with
          | false => simp [hl] at h
          | true =>
            simp only [hl, cond_true, Option.some.injEq, Prod.mk.injEq] at h
            obtain ⟨rfl, rfl⟩ := h
            obtain rfl := Nat.eq_of_beq_eq_true hl
            refine callK_evO ?_
            rw [callK_in CxB145 CxP145]
            refine ⟨by simp [fn145], ?_⟩
            simp (disch := omega) only [go_sem, hb, hd, endK_back, simprocAttr]
            refine ⟨_, rfl, rfl, ?_⟩
            simp
        · cases h
      · cases h
    · cases h
  · cases h
def xOut (f : FuncId) : Option (List A → Heap → Option (A × Heap)) := bif Nat.beq f 145 then some nextO else none
theorem xOut_ok (f : FuncId) (g : List A → Heap → Option (A × Heap)) (l : List A) (H : Heap) (x : A) (H' : Heap) (h : xOut f = some g) (hg : g l H = some (x, H')) : FnOut Cx.T Tryz.prog f l H x H' := by
  unfold xOut at h
  cases hb : Nat.beq f 145 with
  | false => simp [hb] at h
  | true =>
    obtain rfl := Nat.eq_of_beq_eq_true hb
    simp only [hb, cond_true, Option.some.injEq] at h
    subst h
    obtain ⟨N, hN⟩ := next_ev hg
    exact (call_sound CxOk N).2.fn 145 l H x H' hN
end Go.Proofs.YtnhknhniemfnjaaGreatDoor.Ev
namespace Go.Proofs.YtnhknhniemfnjaaGreatDoor.Ev
open Go Go.RowKit
set_option maxRecDepth 100000
section
variable {α : Type}
theorem ap_getk (H l : List α) (k : Nat) : (H ++ l)[H.length + k]? = l[k]? := by
  rw [List.getElem?_append_right (by omega)]
  simp
theorem ap_setk (H l : List α) (k : Nat) (y : α) : (H ++ l).set (H.length + k) y = H ++ l.set k y := by
  rw [List.set_append_right _ _ (by omega)]
  simp
end
theorem shut_vals : ∀ vs : List Value, shut.shutL (vs.map .v) = true
  | [] => rfl
  | v :: vs => by simp only [List.map_cons, shut.shutL, shut, shut_vals vs, Bool.and_self]
def placeC (i : Nat) : List A := [bo (pH i), i8 (pS i : Nat), i8 (pO i : Nat)]
theorem placeC_eq (i : Nat) : .agg (placeC i) = placeA i := (place_parts i).symm
def encI : List Nat → List A
  | [] => []
  | i :: l => placeC i ++ encI l
theorem encI_len : ∀ l : List Nat, (encI l).length = l.length * 3
  | [] => rfl
  | i :: l => by
    simp only [encI, List.length_append, encI_len l, placeC, List.length_cons, List.length_nil]
    omega
theorem encI_app : ∀ a b : List Nat, encI (a ++ b) = encI a ++ encI b
  | [], _ => rfl
  | i :: a, b => by simp only [List.cons_append, encI, encI_app a b, List.append_assoc]
theorem encI_drop (pre suf : List Nat) : List.drop (pre.length * 3) (encI (pre ++ suf)) = encI suf := by
  rw [encI_app, ← encI_len, List.drop_left]
def ruleN (wt : Nat → Bool) (i : Nat) : Int := bif wt i then 2 else 3
def fillM (wt : Nat → Bool) : List Nat → List Value → List Value
  | [], vs => vs
  | i :: l, vs => fillM wt l (putC vs (1 + 3 * i) (ruleN wt i) 0 0)
variable {X : FuncId → List A → Option A} {wt : Nat → Bool}
theorem rule_ev (hX : X 74 = fun _ => none) (h75 : ∀ i, i < 188 → EvQ (CA X) 75 [i8 2, placeA i] (bo (wt i))) {i : Nat} (hi : i < 188) (cs : List A) : EvQ (CA X) 74 [placeA i, .fp (i8 2 :: cs)] (i8 (ruleN wt i)) := by
  have h := h75 i hi
  rw [place_parts] at h ⊢
  refine evQ_of (C := CA X) (m := fn74) CxB74 (by show X 74 _ = none; rw [hX]) (by simp [fn74]) ?_
  cases hw : wt i with
  | true =>
    rw [hw] at h
    simp (disch := omega) only [go_sem, CA_T, hw, ruleN, passK_shut (C := CA X) (f := 75) rfl, QK.use h, simprocAttr]
  | false =>
    rw [hw] at h
    simp (disch := omega) only [go_sem, CA_T, hw, ruleN, passK_shut (C := CA X) (f := 75) rfl, QK.use h, simprocAttr]
set_option maxHeartbeats 16000000 in
theorem fill_loop (hX : X 74 = fun _ => none) (h75 : ∀ i, i < 188 → EvQ (CA X) 75 [i8 2, placeA i] (bo (wt i))) (hS : ∀ (vs : List Value) (i : Nat) (c1 c2 c3 : Int), vs.length = 565 → ones (vs.map .v) = true → i < 188 → EvQ (CA X) 110 [.agg (vs.map .v), placeA i, .agg [i8 c1, i8 c2, .v (.int .u16 c3)]] (.tup [.agg ((putC vs (1 + 3 * i) c1 c2 c3).map .v), i64 0]))
    {d : Nat} {KK : List It} {Q : Ex → St → Prop} :
    ∀ (suf pre : List Nat) (vs : List Value) (H : Heap), vs.length = 565 → ones (vs.map .v) = true → H[d]? = some (some ⟨142, i8 2 :: vs.map .v, true⟩) → (∀ i ∈ suf, i < 188) → (pre ++ suf).length ≤ 4611686018427387904 →
      (∀ e H', H'[d]? = some (some ⟨142, i8 2 :: (fillM wt suf vs).map .v, true⟩) → (∀ j, j ≠ d → j < H.length → H'[j]? = H[j]?) → UnwK (CA X) (.out 0) KK ⟨e, H'⟩ Q) →
      RunK (CA X) (.code (.loop m73_l0) :: KK) ⟨[(0, .ptr d 0), (1, .clo 74 [] [.ptr d 0]), (13, .sl (pre ++ suf).length (encI (pre ++ suf))), (14, i64 (pre ++ suf).length), (15, i64 pre.length)], H⟩ Q := by
  intro suf
  induction suf with
  | nil =>
    intro pre vs H hv h1 hd _ hn hT
    rw [runK_loop]
    simp (disch := omega) only [go_sem, CA_T, List.append_nil, Int.lt_irrefl, simprocAttr]
    exact hT _ _ hd fun _ _ _ => rfl
  | cons i suf ih =>
    intro pre vs H hv h1 hd hok hn hT
    have hi := hok i (.head _)
    have hlen : (pre ++ i :: suf).length = pre.length + (suf.length + 1) := by simp
    have hdr : List.drop (pre.length * 3) (encI (pre ++ i :: suf)) = placeC i ++ encI suf := encI_drop pre (i :: suf)
    have hr := rule_ev hX h75 hi (vs.map .v)
    have hs := hS vs i (ruleN wt i) 0 0 hv h1 hi
    rw [place_parts] at hr hs
    have hpl := putC_len (c1 := ruleN wt i) (c2 := 0) (c3 := 0) hv (show 1 + 3 * i + 3 ≤ 565 by omega)
    have hp1 := putC_one (off := 1 + 3 * i) (c1 := ruleN wt i) (c2 := 0) (c3 := 0) h1
    have hfm : fillM wt (i :: suf) vs = fillM wt suf (putC vs (1 + 3 * i) (ruleN wt i) 0 0) := rfl
    rw [hfm] at hT
    have hi1 := fun H' hd' (ho : ∀ j, j ≠ d → j < H.length → H'[j]? = H[j]?) (hl' : H.length ≤ H'.length) => ih (pre ++ [i]) (putC vs (1 + 3 * i) (ruleN wt i) 0 0) H' hpl hp1 hd' (fun j hj => hok j (.tail _ hj)) (by simpa using hn) (fun e H'' k1 k2 => hT e H'' k1 fun j j1 j2 => (k2 j j1 (by omega)).trans (ho j j1 j2))
    generalize putC vs (1 + 3 * i) (ruleN wt i) 0 0 = ws at *
    have ld := ap_low hd
    have lds := ap_slow hd
    have ht : List.take 565 (List.map A.v vs) = List.map A.v vs := List.take_of_length_le (by simp [hv])
    have hdz : List.drop 565 (List.map A.v z42) = [] := List.drop_of_length_le (by simp [z42_len])
    have hdv : List.drop 565 (List.map A.v vs) = [] := List.drop_of_length_le (by simp [hv])
    have htw : List.take 565 (List.map A.v ws) = List.map A.v ws := List.take_of_length_le (by simp [hpl])
    rw [runK_loop]
    simp (disch := omega) only [go_sem, placeC, CA_T, hlen, hdr, hd, ld, lds, ap_getk, ap_setk, List.append_assoc, List.length_append, List.length_map, encI_len, t42, z42_len, hv, hpl, h1, hp1, ht, hdz, hdv, htw, fz_vals, shut_vals, QK.use hr, passK_shut (C := CA X) (f := 110) rfl, QK.use hs, simprocAttr]
    rw [loop_norm (l := [0, 1, 13, 14, 15]) rfl]
    simp (disch := omega) only [go_sem, simprocAttr]
    have hfin := hi1 _ (ap_low (set_same hd (some ⟨142, i8 2 :: ws.map .v, true⟩)) [some ⟨148, placeC i, true⟩, some ⟨42, List.map A.v ws, true⟩]) (fun j j1 j2 => by
      rw [List.getElem?_append_left (by simpa using j2), List.getElem?_set_ne (Ne.symm j1)]) (by simp)
    simpa only [i64, i8, bo, placeC, List.append_assoc, List.singleton_append, List.length_append, List.length_cons, List.length_nil, Nat.zero_add, Int.natCast_add, Int.natCast_one] using hfin
theorem fillM_len {wt : Nat → Bool} : ∀ (L : List Nat) (vs : List Value), (∀ i ∈ L, i < 188) → vs.length = 565 → (fillM wt L vs).length = 565
  | [], vs, _, hv => hv
  | i :: L, vs, hL, hv => fillM_len L _ (fun j hj => hL j (.tail _ hj)) (putC_len hv (by have := hL i (.head _); omega))
theorem fillM_one {wt : Nat → Bool} : ∀ (L : List Nat) (vs : List Value), ones (vs.map .v) = true → ones ((fillM wt L vs).map .v) = true
  | [], vs, h => h
  | i :: L, vs, h => fillM_one L _ (putC_one h)
theorem b73 : (CA X).B 73 = some fn73 := CxB73
theorem p73 : isPass (CA X) 73 = true := CxP73
theorem zq_len : (List.replicate 188 ([.int .u8 0, .int .u8 0, .int .u16 0] : List Value)).flatten.length = 564 := by kernel_rfl
theorem zq_ones : ones (List.map A.v (List.replicate 188 ([.int .u8 0, .int .u8 0, .int .u16 0] : List Value)).flatten) = true := by kernel_rfl
theorem zq_drop : List.drop 564 (List.map A.v (List.replicate 188 ([.int .u8 0, .int .u8 0, .int .u16 0] : List Value)).flatten) = [] := List.drop_of_length_le (by rw [List.length_map, zq_len]; exact Nat.le_refl _)
theorem make_ev (hX : X 74 = fun _ => none) (hX38 : X 38 = fun _ => none) (h75 : ∀ i, i < 188 → EvQ (CA X) 75 [i8 2, placeA i] (bo (wt i))) (hS : ∀ (vs : List Value) (i : Nat) (c1 c2 c3 : Int), vs.length = 565 → ones (vs.map .v) = true → i < 188 → EvQ (CA X) 110 [.agg (vs.map .v), placeA i, .agg [i8 c1, i8 c2, .v (.int .u16 c3)]] (.tup [.agg ((putC vs (1 + 3 * i) c1 c2 c3).map .v), i64 0]))
    {nm tx : ByteArray} (hnm : (nm.toList == ({ data := #[] } : ByteArray).toList) = false) (h70 : EvQ (CA X) 70 [i8 2] (.v (.string nm))) (h72 : EvQ (CA X) 72 [i8 2] (.v (.string tx))) {vs : List Value} (hv : vs.length = 565) (h1 : ones (vs.map .v) = true) (h71 : EvQ (CA X) 71 [.v (.string tx)] (.tup [.agg (vs.map .v), i64 0, i64 0]))
    {L : List Nat} (hL : ∀ i ∈ L, i < 188) (hLn : L.length ≤ 4611686018427387904) (h109 : EvQ (CA X) 109 [.agg (vs.map .v)] (.sl L.length (encI L))) :
    EvQ (CA X) 38 [i8 2] (.tup [.agg ((fillM wt L vs).map .v), i64 0]) := by
  refine evQ_of (C := CA X) (m := fn38) CxB38 (by show X 38 _ = none; rw [hX38]) (by simp [fn38]) ?_
  have ht : List.take 565 (List.map A.v vs) = List.map A.v vs := List.take_of_length_le (by simp [hv])
  have hdz : List.drop 565 (List.map A.v z42) = [] := List.drop_of_length_le (by simp [z42_len])
  simp (disch := omega) only [go_sem, CA_T, t42, z42_len, zq_len, zq_ones, zq_drop, hv, h1, ht, hdz, List.length_map, fz_vals, shut_vals, passK_shut (C := CA X) (f := 70) rfl, QK.use h70, passK_shut (C := CA X) (f := 72) rfl, QK.use h72, passK_shut (C := CA X) (f := 71) rfl, QK.use h71, hnm, passK_in (b73 (X := X)) p73, passK_shut (C := CA X) (f := 109) rfl, QK.use h109, simprocAttr, -List.reduceReplicate]
  rw [loop_norm (l := [0, 1, 13, 14, 15]) rfl]
  simp (disch := omega) only [go_sem, simprocAttr]
  refine fill_loop hX h75 hS (d := 1) L [] vs _ hv h1 rfl hL hLn fun e H' hd ho => ?_
  have h0 : H'[0]? = some (some ⟨42, List.map A.v z42, true⟩) := ho 0 (by decide) (by simp)
  have hs0 := set_same h0
  have hfl : (fillM wt L vs).length = 565 := fillM_len L vs hL hv
  have hf1 : ones ((fillM wt L vs).map .v) = true := fillM_one L vs h1
  generalize fillM wt L vs = ws at *
  have htw : List.take 565 (List.map A.v ws) = List.map A.v ws := List.take_of_length_le (by simp [hfl])
  simp (disch := omega) only [go_sem, CA_T, hd, h0, hs0, t42, z42_len, hfl, hf1, htw, hdz, List.length_map, fz_vals, shut_vals, simprocAttr]
end Go.Proofs.YtnhknhniemfnjaaGreatDoor.Ev
