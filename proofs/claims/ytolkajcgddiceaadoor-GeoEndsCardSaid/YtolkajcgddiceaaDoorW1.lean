/- Walks of package geo (layer 16) and of its reference: each function's contract, for all arguments. -/
import Derived.Test.YtolkajcgddiceaaDoorRows
import Derived.WalkKit
import Derived.WalkSpells
import Derived.WalkLawsBesides
import Derived.Lib.Hide
set_option linter.unusedSimpArgs false
set_option linter.unusedVariables false
namespace Go.Proofs.YtolkajcgddiceaaDoor
open Go.RowKit

/-- The table of bounds lies in its block. -/
structure Bnd (w : World) : Prop where
  c0 : w.cell? ⟨0, 0, none⟩ = some (.int .i64 4)
  c1 : w.cell? ⟨0, 1, none⟩ = some (.int .i64 2)
  c2 : w.cell? ⟨0, 2, none⟩ = some (.int .i64 4)
  c3 : w.cell? ⟨0, 3, none⟩ = some (.int .i64 4)
  c4 : w.cell? ⟨0, 4, none⟩ = some (.int .i64 4)
  sz : 0 < w.heap.size

theorem Bnd.below {w w' : World} {B : Nat} (h : Bnd w) (hb : Below B w w') (hB : 0 < B) : Bnd w' :=
  ⟨by rw [hb.cell (p := ⟨0, 0, none⟩) hB]; exact h.c0, by rw [hb.cell (p := ⟨0, 1, none⟩) hB]; exact h.c1, by rw [hb.cell (p := ⟨0, 2, none⟩) hB]; exact h.c2, by rw [hb.cell (p := ⟨0, 3, none⟩) hB]; exact h.c3, by rw [hb.cell (p := ⟨0, 4, none⟩) hB]; exact h.c4, by have := h.sz; have := hb.size; omega⟩
theorem Bnd.alloc {w : World} (h : Bnd w) (o : Obj) : Bnd (w.alloc o) := h.below ((Below.refl _ _).alloc (Nat.le_refl _) o) h.sz
theorem Bnd.set {w : World} (h : Bnd w) (p : Addr) (hp : 0 < p.block) (v : Value) : Bnd (w.setCell p v) :=
  h.below (B := 0 + 1) ((Below.refl _ w).setCell (p := p) (by omega) v) (by omega)
theorem Bnd.drew {w : World} (h : Bnd w) : Bnd w.drew := h.below ((Below.refl _ _).drew) h.sz

/-- Whether a geometry is valid. -/
structure OkG (c h o s y : Int) : Prop where
  c1 : 1 ≤ c
  c2 : c ≤ 4
  h1 : 1 ≤ h
  h2 : h ≤ 2
  o1 : 1 ≤ o
  o2 : o ≤ 4
  s1 : 1 ≤ s
  s2 : s ≤ 4
  y1 : 1 ≤ y
  y2 : y ≤ 4
theorem OkG_iff (c h o s y : Int) : OkG c h o s y ↔ (1 ≤ c ∧ c ≤ 4 ∧ 1 ≤ h ∧ h ≤ 2 ∧ 1 ≤ o ∧ o ≤ 4 ∧ 1 ≤ s ∧ s ≤ 4 ∧ 1 ≤ y ∧ y ≤ 4) :=
  ⟨fun ⟨a, b, c, d, e, f, g, h, i, j⟩ => ⟨a, b, c, d, e, f, g, h, i, j⟩, fun ⟨a, b, c, d, e, f, g, h, i, j⟩ => ⟨a, b, c, d, e, f, g, h, i, j⟩⟩
instance (c h o s y : Int) : Decidable (OkG c h o s y) := decidable_of_iff _ (OkG_iff c h o s y).symm

theorem ret_bool {a b : Bool} (h : a = b) : Ending.returned (.bool a) = .returned (.bool b) := by rw [h]
theorem ret_int {k : IntKind} {a b : Int} (h : a = b) : Ending.returned (.int k a) = .returned (.int k b) := by rw [h]
theorem bcell {W w1 : World} (hb : Below W.heap.size W w1) : (∀ b o, b < W.heap.size → w1.cell? ⟨b, o, none⟩ = W.cell? ⟨b, o, none⟩) ∧ (∀ b o, b < W.heap.size → w1.frozen? ⟨b, o, none⟩ = W.frozen? ⟨b, o, none⟩) :=
  ⟨fun b o h => hb.cell (p := ⟨b, o, none⟩) h, fun b o h => hb.frozen (p := ⟨b, o, none⟩) h⟩
theorem Below.after {W w1 a : World} {B : Nat} (h : Below W.heap.size W w1) (h0 : Below B a W) (hB : B ≤ W.heap.size) : Below B a w1 := h0.trans (h.mono hB)


set_option maxHeartbeats 1000000 in
theorem right_any (c h o s y : Int) (w : World) (hw : Bnd w) :
    Calls Tryd.prog 10 #[.agg #[.int .i64 c, .int .i64 h, .int .i64 o, .int .i64 s, .int .i64 y]] w fun e w' => e = .returned (.bool (decide (OkG c h o s y))) ∧ Below w.heap.size w w' := by
  obtain ⟨b0, b1, b2, b3, b4, sz⟩ := hw
  have i0 : ∀ w, (Instr.index 40 (.agg #[.int .i64 c, .int .i64 h, .int .i64 o, .int .i64 s, .int .i64 y]) (.int .i64 0)).run Tryd.prog w = .ok (.int .i64 c) w := fun _ => by kernel_rfl
  have i1 : ∀ w, (Instr.index 40 (.agg #[.int .i64 c, .int .i64 h, .int .i64 o, .int .i64 s, .int .i64 y]) (.int .i64 1)).run Tryd.prog w = .ok (.int .i64 h) w := fun _ => by kernel_rfl
  have i2 : ∀ w, (Instr.index 40 (.agg #[.int .i64 c, .int .i64 h, .int .i64 o, .int .i64 s, .int .i64 y]) (.int .i64 2)).run Tryd.prog w = .ok (.int .i64 o) w := fun _ => by kernel_rfl
  have i3 : ∀ w, (Instr.index 40 (.agg #[.int .i64 c, .int .i64 h, .int .i64 o, .int .i64 s, .int .i64 y]) (.int .i64 3)).run Tryd.prog w = .ok (.int .i64 s) w := fun _ => by kernel_rfl
  have i4 : ∀ w, (Instr.index 40 (.agg #[.int .i64 c, .int .i64 h, .int .i64 o, .int .i64 s, .int .i64 y]) (.int .i64 4)).run Tryd.prog w = .ok (.int .i64 y) w := fun _ => by kernel_rfl
  go_enter Tryd.func10, Tryd.ntmps10
  go_wp2
  refine wp_loop_rounds 6 ?_
  iterate 6 (all_goals (try rw [rounds_succ]); all_goals (try go_wp2))
  all_goals go_ret
  all_goals exact ⟨ret_bool (by simp [OkG_iff]; omega), (Below.refl _ _).alloc (Nat.le_refl _) _⟩

theorem right_yes (c h o s y : Int) (w : World) (hw : Bnd w) (hk : OkG c h o s y) :
    Calls Tryd.prog 10 #[.agg #[.int .i64 c, .int .i64 h, .int .i64 o, .int .i64 s, .int .i64 y]] w fun e w' => e = .returned (.bool true) ∧ Below w.heap.size w w' := by
  have := right_any c h o s y w hw
  rwa [decide_eq_true hk] at this
theorem right_no (c h o s y : Int) (w : World) (hw : Bnd w) (hk : ¬ OkG c h o s y) :
    Calls Tryd.prog 10 #[.agg #[.int .i64 c, .int .i64 h, .int .i64 o, .int .i64 s, .int .i64 y]] w fun e w' => e = .returned (.bool false) ∧ Below w.heap.size w w' := by
  have := right_any c h o s y w hw
  rwa [decide_eq_false hk] at this

set_option maxHeartbeats 400000 in
theorem valid_yes (c h o s y : Int) (w : World) (hw : Bnd w) (hk : OkG c h o s y) :
    Calls Tryd.prog 26 #[.agg #[.int .i64 c, .int .i64 h, .int .i64 o, .int .i64 s, .int .i64 y]] w fun e w' => e = .returned (.tuple #[.agg #[.int .i64 c, .int .i64 h, .int .i64 o, .int .i64 s, .int .i64 y], .bool true]) ∧ Below w.heap.size w w' := by
  have sz := hw.sz
  have HW := Lib.hid hw
  clear hw
  have HK := Lib.hid hk
  clear hk
  go_enter Tryd.func26, Tryd.ntmps26
  go_wp2_with (go_at_call 10; refine (right_yes _ _ _ _ _ _ ((HW.out.alloc _).alloc _) HK.out).mono ?_; rintro e w1 ⟨rfl, hb1⟩; obtain ⟨hc, hf⟩ := bcell hb1; have hz := hb1.size; simp at hz)
  refine bodyPost_ret (v := .tuple #[.agg #[.int .i64 c, .int .i64 h, .int .i64 o, .int .i64 s, .int .i64 y], .bool true]) (by simp [results, Tryd.results26, go_sem, hc]) rfl ⟨rfl, ?_⟩
  have h0 := Below.after hb1 (((Below.refl w.heap.size w).alloc (Nat.le_refl _) _).alloc (by simp) _) (by simp; omega)
  (repeat (first | with_reducible exact Below.refl _ _ | with_reducible assumption | (with_reducible refine Below.alloc ?_ (by first | omega | (simp; done) | (simp; omega)) _) | (with_reducible refine Below.setCell ?_ (by first | omega | (simp; done) | (simp; omega)) _) | (with_reducible refine Below.drew ?_) | (with_reducible refine below_drewN ?_ _)))

set_option maxHeartbeats 400000 in
theorem valid_no (c h o s y : Int) (w : World) (hw : Bnd w) (hk : ¬ OkG c h o s y) :
    Calls Tryd.prog 26 #[.agg #[.int .i64 c, .int .i64 h, .int .i64 o, .int .i64 s, .int .i64 y]] w fun e w' => e = .returned (.tuple #[.agg #[.int .i64 0, .int .i64 0, .int .i64 0, .int .i64 0, .int .i64 0], .bool false]) ∧ Below w.heap.size w w' := by
  have sz := hw.sz
  have HW := Lib.hid hw
  clear hw
  have HK := Lib.hid hk
  clear hk
  go_enter Tryd.func26, Tryd.ntmps26
  go_wp2_with (go_at_call 10; refine (right_no _ _ _ _ _ _ ((HW.out.alloc _).alloc _) HK.out).mono ?_; rintro e w1 ⟨rfl, hb1⟩; obtain ⟨hc, hf⟩ := bcell hb1; have hz := hb1.size; simp at hz)
  refine bodyPost_ret (v := .tuple #[.agg #[.int .i64 0, .int .i64 0, .int .i64 0, .int .i64 0, .int .i64 0], .bool false]) (by simp [results, Tryd.results26, go_sem, hc]) rfl ⟨rfl, ?_⟩
  have h0 := Below.after hb1 (((Below.refl w.heap.size w).alloc (Nat.le_refl _) _).alloc (by simp) _) (by simp; omega)
  (repeat (first | with_reducible exact Below.refl _ _ | with_reducible assumption | (with_reducible refine Below.alloc ?_ (by first | omega | (simp; done) | (simp; omega)) _) | (with_reducible refine Below.setCell ?_ (by first | omega | (simp; done) | (simp; omega)) _) | (with_reducible refine Below.drew ?_) | (with_reducible refine below_drewN ?_ _)))
end Go.Proofs.YtolkajcgddiceaaDoor
