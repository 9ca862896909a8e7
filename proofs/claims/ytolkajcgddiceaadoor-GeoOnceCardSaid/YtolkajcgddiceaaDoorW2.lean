/- Walks of package geo, continued: the plain functions of a valid and of an invalid geometry. -/
import Derived.Test.YtolkajcgddiceaaDoorW1
import Derived.Deep.QuietTactic
import Derived.BigQuiet
import Derived.WalkSmall
set_option linter.unusedSimpArgs false
set_option linter.unusedVariables false
namespace Go.Proofs.YtolkajcgddiceaaDoor
open Go.RowKit

set_option maxHeartbeats 400000 in
theorem line_any (c h o s y : Int) (w : World) (ho : 1 ≤ o) (ho' : o ≤ 4) (l : Int) (hl : 0 ≤ l) (hl' : l ≤ 255) :
    Calls Tryd.prog 27 #[.agg #[.int .i64 c, .int .i64 h, .int .i64 o, .int .i64 s, .int .i64 y], .int .u8 l] w fun e w' => e = .returned (.int .u8 (l / o)) ∧ Below w.heap.size w w' := by
  go_enter Tryd.func27, Tryd.ntmps27
  go_wp2
  go_ret
  exact ⟨rfl, by (repeat (first | with_reducible exact Below.refl _ _ | with_reducible assumption | (with_reducible refine Below.alloc ?_ (by first | omega | (simp; done) | (simp; omega)) _) | (with_reducible refine Below.setCell ?_ (by first | omega | (simp; done) | (simp; omega)) _) | (with_reducible refine Below.drew ?_) | (with_reducible refine below_drewN ?_ _)))⟩
set_option maxHeartbeats 400000 in
theorem word_any (c h o s y : Int) (w : World) (ho : 1 ≤ o) (ho' : o ≤ 4) (l : Int) (hl : 0 ≤ l) (hl' : l ≤ 255) :
    Calls Tryd.prog 29 #[.agg #[.int .i64 c, .int .i64 h, .int .i64 o, .int .i64 s, .int .i64 y], .int .u8 l] w fun e w' => e = .returned (.int .u8 (l % o)) ∧ Below w.heap.size w w' := by
  go_enter Tryd.func29, Tryd.ntmps29
  go_wp2
  go_ret
  exact ⟨rfl, by (repeat (first | with_reducible exact Below.refl _ _ | with_reducible assumption | (with_reducible refine Below.alloc ?_ (by first | omega | (simp; done) | (simp; omega)) _) | (with_reducible refine Below.setCell ?_ (by first | omega | (simp; done) | (simp; omega)) _) | (with_reducible refine Below.drew ?_) | (with_reducible refine below_drewN ?_ _)))⟩

set_option maxHeartbeats 400000 in
theorem Line_yes (c h o s y : Int) (w : World) (hw : Bnd w) (hk : OkG c h o s y) (l : Int) (hl : 0 ≤ l) (hl' : l ≤ 255) :
    Calls Tryd.prog 14 #[.agg #[.int .i64 c, .int .i64 h, .int .i64 o, .int .i64 s, .int .i64 y], .int .u8 l] w fun e w' => e = .returned (.int .u8 (l / o)) ∧ Below w.heap.size w w' := by
  have ho := hk.o1
  have ho' := hk.o2
  have sz := hw.sz; have HW := Lib.hid hw; clear hw; have HK := Lib.hid hk; clear hk
  go_enter Tryd.func14, Tryd.ntmps14
  go_wp2_with (first | (go_at_call 26; refine (valid_yes _ _ _ _ _ _ (HW.out.alloc _) HK.out).mono ?_; rintro e w1 ⟨rfl, hb1⟩; obtain ⟨hc, hf⟩ := bcell hb1; have hz := hb1.size; simp at hz) | (go_at_call 27; refine (line_any _ _ _ _ _ _ ho ho' _ hl hl').mono ?_; rintro e w2 ⟨rfl, hb2⟩))
  go_ret
  have h0 := Below.after hb1 ((Below.refl w.heap.size w).alloc (Nat.le_refl _) _) (by simp)
  exact ⟨rfl, Below.after hb2 (by (repeat (first | with_reducible exact Below.refl _ _ | with_reducible assumption | (with_reducible refine Below.alloc ?_ (by first | omega | (simp; done) | (simp; omega)) _) | (with_reducible refine Below.setCell ?_ (by first | omega | (simp; done) | (simp; omega)) _) | (with_reducible refine Below.drew ?_) | (with_reducible refine below_drewN ?_ _)))) (by simp; omega)⟩
set_option maxHeartbeats 400000 in
theorem Line_no (c h o s y : Int) (w : World) (hw : Bnd w) (hk : ¬ OkG c h o s y) (l : Int) (hl : 0 ≤ l) (hl' : l ≤ 255) :
    Calls Tryd.prog 14 #[.agg #[.int .i64 c, .int .i64 h, .int .i64 o, .int .i64 s, .int .i64 y], .int .u8 l] w fun e w' => e = .returned (.int .u8 0) ∧ Below w.heap.size w w' := by
  have sz := hw.sz; have HW := Lib.hid hw; clear hw; have HK := Lib.hid hk; clear hk
  go_enter Tryd.func14, Tryd.ntmps14
  go_wp2_with (go_at_call 26; refine (valid_no _ _ _ _ _ _ (HW.out.alloc _) HK.out).mono ?_; rintro e w1 ⟨rfl, hb1⟩; obtain ⟨hc, hf⟩ := bcell hb1; have hz := hb1.size; simp at hz)
  go_ret
  have h0 := Below.after hb1 ((Below.refl w.heap.size w).alloc (Nat.le_refl _) _) (by simp)
  exact ⟨rfl, by (repeat (first | with_reducible exact Below.refl _ _ | with_reducible assumption | (with_reducible refine Below.alloc ?_ (by first | omega | (simp; done) | (simp; omega)) _) | (with_reducible refine Below.setCell ?_ (by first | omega | (simp; done) | (simp; omega)) _) | (with_reducible refine Below.drew ?_) | (with_reducible refine below_drewN ?_ _)))⟩
set_option maxHeartbeats 400000 in
theorem Word_yes (c h o s y : Int) (w : World) (hw : Bnd w) (hk : OkG c h o s y) (l : Int) (hl : 0 ≤ l) (hl' : l ≤ 255) :
    Calls Tryd.prog 15 #[.agg #[.int .i64 c, .int .i64 h, .int .i64 o, .int .i64 s, .int .i64 y], .int .u8 l] w fun e w' => e = .returned (.int .u8 (l % o)) ∧ Below w.heap.size w w' := by
  obtain ⟨q1, q2, q3, q4, q5, q6, q7, q8, q9, q10⟩ := id hk
  have sz := hw.sz; have HW := Lib.hid hw; clear hw; have HK := Lib.hid hk; clear hk
  go_enter Tryd.func15, Tryd.ntmps15
  go_wp2_with (first | (go_at_call 26; refine (valid_yes _ _ _ _ _ _ (HW.out.alloc _) HK.out).mono ?_; rintro e w1 ⟨rfl, hb1⟩; obtain ⟨hc, hf⟩ := bcell hb1; have hz := hb1.size; simp at hz) | (go_at_call 29; refine (word_any _ _ _ _ _ _ q5 q6 _ hl hl').mono ?_; rintro e w2 ⟨rfl, hb2⟩))
  go_ret
  have h0 := Below.after hb1 ((Below.refl w.heap.size w).alloc (Nat.le_refl _) _) (by simp)
  exact ⟨rfl, Below.after hb2 (by (repeat (first | with_reducible exact Below.refl _ _ | with_reducible assumption | (with_reducible refine Below.alloc ?_ (by first | omega | (simp; done) | (simp; omega)) _) | (with_reducible refine Below.setCell ?_ (by first | omega | (simp; done) | (simp; omega)) _) | (with_reducible refine Below.drew ?_) | (with_reducible refine below_drewN ?_ _)))) (by simp; omega)⟩
set_option maxHeartbeats 400000 in
theorem Word_no (c h o s y : Int) (w : World) (hw : Bnd w) (hk : ¬ OkG c h o s y) (l : Int) (hl : 0 ≤ l) (hl' : l ≤ 255) :
    Calls Tryd.prog 15 #[.agg #[.int .i64 c, .int .i64 h, .int .i64 o, .int .i64 s, .int .i64 y], .int .u8 l] w fun e w' => e = .returned (.int .u8 0) ∧ Below w.heap.size w w' := by
  have sz := hw.sz; have HW := Lib.hid hw; clear hw; have HK := Lib.hid hk; clear hk
  go_enter Tryd.func15, Tryd.ntmps15
  go_wp2_with (go_at_call 26; refine (valid_no _ _ _ _ _ _ (HW.out.alloc _) HK.out).mono ?_; rintro e w1 ⟨rfl, hb1⟩; obtain ⟨hc, hf⟩ := bcell hb1; have hz := hb1.size; simp at hz)
  go_ret
  have h0 := Below.after hb1 ((Below.refl w.heap.size w).alloc (Nat.le_refl _) _) (by simp)
  exact ⟨rfl, by (repeat (first | with_reducible exact Below.refl _ _ | with_reducible assumption | (with_reducible refine Below.alloc ?_ (by first | omega | (simp; done) | (simp; omega)) _) | (with_reducible refine Below.setCell ?_ (by first | omega | (simp; done) | (simp; omega)) _) | (with_reducible refine Below.drew ?_) | (with_reducible refine below_drewN ?_ _)))⟩
set_option maxHeartbeats 400000 in
theorem Set_yes (c h o s y : Int) (w : World) (hw : Bnd w) (hk : OkG c h o s y) (l : Int) (hl : 0 ≤ l) (hl' : l ≤ 255) :
    Calls Tryd.prog 24 #[.agg #[.int .i64 c, .int .i64 h, .int .i64 o, .int .i64 s, .int .i64 y], .int .u8 l] w fun e w' => e = .returned (.int .u8 (l % s)) ∧ Below w.heap.size w w' := by
  obtain ⟨q1, q2, q3, q4, q5, q6, q7, q8, q9, q10⟩ := id hk
  have sz := hw.sz; have HW := Lib.hid hw; clear hw; have HK := Lib.hid hk; clear hk
  go_enter Tryd.func24, Tryd.ntmps24
  go_wp2_with (go_at_call 26; refine (valid_yes _ _ _ _ _ _ (HW.out.alloc _) HK.out).mono ?_; rintro e w1 ⟨rfl, hb1⟩; obtain ⟨hc, hf⟩ := bcell hb1; have hz := hb1.size; simp at hz)
  go_ret
  have h0 := Below.after hb1 ((Below.refl w.heap.size w).alloc (Nat.le_refl _) _) (by simp)
  exact ⟨rfl, by (repeat (first | with_reducible exact Below.refl _ _ | with_reducible assumption | (with_reducible refine Below.alloc ?_ (by first | omega | (simp; done) | (simp; omega)) _) | (with_reducible refine Below.setCell ?_ (by first | omega | (simp; done) | (simp; omega)) _) | (with_reducible refine Below.drew ?_) | (with_reducible refine below_drewN ?_ _)))⟩
set_option maxHeartbeats 400000 in
theorem Set_no (c h o s y : Int) (w : World) (hw : Bnd w) (hk : ¬ OkG c h o s y) (l : Int) (hl : 0 ≤ l) (hl' : l ≤ 255) :
    Calls Tryd.prog 24 #[.agg #[.int .i64 c, .int .i64 h, .int .i64 o, .int .i64 s, .int .i64 y], .int .u8 l] w fun e w' => e = .returned (.int .u8 0) ∧ Below w.heap.size w w' := by
  have sz := hw.sz; have HW := Lib.hid hw; clear hw; have HK := Lib.hid hk; clear hk
  go_enter Tryd.func24, Tryd.ntmps24
  go_wp2_with (go_at_call 26; refine (valid_no _ _ _ _ _ _ (HW.out.alloc _) HK.out).mono ?_; rintro e w1 ⟨rfl, hb1⟩; obtain ⟨hc, hf⟩ := bcell hb1; have hz := hb1.size; simp at hz)
  go_ret
  have h0 := Below.after hb1 ((Below.refl w.heap.size w).alloc (Nat.le_refl _) _) (by simp)
  exact ⟨rfl, by (repeat (first | with_reducible exact Below.refl _ _ | with_reducible assumption | (with_reducible refine Below.alloc ?_ (by first | omega | (simp; done) | (simp; omega)) _) | (with_reducible refine Below.setCell ?_ (by first | omega | (simp; done) | (simp; omega)) _) | (with_reducible refine Below.drew ?_) | (with_reducible refine below_drewN ?_ _)))⟩
set_option maxHeartbeats 400000 in
theorem Home_yes (c h o s y : Int) (w : World) (hw : Bnd w) (hk : OkG c h o s y) (l : Int) (hl : 0 ≤ l) (hl' : l ≤ 255) :
    Calls Tryd.prog 23 #[.agg #[.int .i64 c, .int .i64 h, .int .i64 o, .int .i64 s, .int .i64 y], .int .u8 l] w fun e w' => e = .returned (.int .u8 (c + l % h)) ∧ Below w.heap.size w w' := by
  obtain ⟨q1, q2, q3, q4, q5, q6, q7, q8, q9, q10⟩ := id hk
  have sz := hw.sz; have HW := Lib.hid hw; clear hw; have HK := Lib.hid hk; clear hk
  go_enter Tryd.func23, Tryd.ntmps23
  go_wp2_with (go_at_call 26; refine (valid_yes _ _ _ _ _ _ (HW.out.alloc _) HK.out).mono ?_; rintro e w1 ⟨rfl, hb1⟩; obtain ⟨hc, hf⟩ := bcell hb1; have hz := hb1.size; simp at hz)
  go_quiet (fail)
  go_wp2
  go_ret
  have h0 := Below.after hb1 ((Below.refl w.heap.size w).alloc (Nat.le_refl _) _) (by simp)
  have e1 := Int.emod_nonneg l (show h ≠ 0 by omega)
  have e2 := Int.emod_lt_of_pos l (show 0 < h by omega)
  exact ⟨ret_int (by omega), by (repeat (first | with_reducible exact Below.refl _ _ | with_reducible assumption | (with_reducible refine Below.alloc ?_ (by first | omega | (simp; done) | (simp; omega)) _) | (with_reducible refine Below.setCell ?_ (by first | omega | (simp; done) | (simp; omega)) _) | (with_reducible refine Below.drew ?_) | (with_reducible refine below_drewN ?_ _)))⟩
set_option maxHeartbeats 400000 in
theorem Home_no (c h o s y : Int) (w : World) (hw : Bnd w) (hk : ¬ OkG c h o s y) (l : Int) (hl : 0 ≤ l) (hl' : l ≤ 255) :
    Calls Tryd.prog 23 #[.agg #[.int .i64 c, .int .i64 h, .int .i64 o, .int .i64 s, .int .i64 y], .int .u8 l] w fun e w' => e = .returned (.int .u8 0) ∧ Below w.heap.size w w' := by
  have sz := hw.sz; have HW := Lib.hid hw; clear hw; have HK := Lib.hid hk; clear hk
  go_enter Tryd.func23, Tryd.ntmps23
  go_wp2_with (go_at_call 26; refine (valid_no _ _ _ _ _ _ (HW.out.alloc _) HK.out).mono ?_; rintro e w1 ⟨rfl, hb1⟩; obtain ⟨hc, hf⟩ := bcell hb1; have hz := hb1.size; simp at hz)
  go_ret
  have h0 := Below.after hb1 ((Below.refl w.heap.size w).alloc (Nat.le_refl _) _) (by simp)
  exact ⟨rfl, by (repeat (first | with_reducible exact Below.refl _ _ | with_reducible assumption | (with_reducible refine Below.alloc ?_ (by first | omega | (simp; done) | (simp; omega)) _) | (with_reducible refine Below.setCell ?_ (by first | omega | (simp; done) | (simp; omega)) _) | (with_reducible refine Below.drew ?_) | (with_reducible refine below_drewN ?_ _)))⟩
set_option maxHeartbeats 400000 in
theorem Nodes_yes (c h o s y : Int) (w : World) (hw : Bnd w) (hk : OkG c h o s y)  :
    Calls Tryd.prog 12 #[.agg #[.int .i64 c, .int .i64 h, .int .i64 o, .int .i64 s, .int .i64 y]] w fun e w' => e = .returned (.int .i64 (c + h)) ∧ Below w.heap.size w w' := by
  obtain ⟨q1, q2, q3, q4, q5, q6, q7, q8, q9, q10⟩ := id hk
  have sz := hw.sz; have HW := Lib.hid hw; clear hw; have HK := Lib.hid hk; clear hk
  go_enter Tryd.func12, Tryd.ntmps12
  go_wp2_with (go_at_call 26; refine (valid_yes _ _ _ _ _ _ (HW.out.alloc _) HK.out).mono ?_; rintro e w1 ⟨rfl, hb1⟩; obtain ⟨hc, hf⟩ := bcell hb1; have hz := hb1.size; simp at hz)
  go_ret
  have h0 := Below.after hb1 ((Below.refl w.heap.size w).alloc (Nat.le_refl _) _) (by simp)
  exact ⟨rfl, by (repeat (first | with_reducible exact Below.refl _ _ | with_reducible assumption | (with_reducible refine Below.alloc ?_ (by first | omega | (simp; done) | (simp; omega)) _) | (with_reducible refine Below.setCell ?_ (by first | omega | (simp; done) | (simp; omega)) _) | (with_reducible refine Below.drew ?_) | (with_reducible refine below_drewN ?_ _)))⟩
set_option maxHeartbeats 400000 in
theorem Nodes_no (c h o s y : Int) (w : World) (hw : Bnd w) (hk : ¬ OkG c h o s y)  :
    Calls Tryd.prog 12 #[.agg #[.int .i64 c, .int .i64 h, .int .i64 o, .int .i64 s, .int .i64 y]] w fun e w' => e = .returned (.int .i64 0) ∧ Below w.heap.size w w' := by
  have sz := hw.sz; have HW := Lib.hid hw; clear hw; have HK := Lib.hid hk; clear hk
  go_enter Tryd.func12, Tryd.ntmps12
  go_wp2_with (go_at_call 26; refine (valid_no _ _ _ _ _ _ (HW.out.alloc _) HK.out).mono ?_; rintro e w1 ⟨rfl, hb1⟩; obtain ⟨hc, hf⟩ := bcell hb1; have hz := hb1.size; simp at hz)
  go_ret
  have h0 := Below.after hb1 ((Below.refl w.heap.size w).alloc (Nat.le_refl _) _) (by simp)
  exact ⟨rfl, by (repeat (first | with_reducible exact Below.refl _ _ | with_reducible assumption | (with_reducible refine Below.alloc ?_ (by first | omega | (simp; done) | (simp; omega)) _) | (with_reducible refine Below.setCell ?_ (by first | omega | (simp; done) | (simp; omega)) _) | (with_reducible refine Below.drew ?_) | (with_reducible refine below_drewN ?_ _)))⟩
set_option maxHeartbeats 400000 in
theorem Lines_yes (c h o s y : Int) (w : World) (hw : Bnd w) (hk : OkG c h o s y)  :
    Calls Tryd.prog 11 #[.agg #[.int .i64 c, .int .i64 h, .int .i64 o, .int .i64 s, .int .i64 y]] w fun e w' => e = .returned (.int .i64 (5 / o + 1)) ∧ Below w.heap.size w w' := by
  obtain ⟨q1, q2, q3, q4, q5, q6, q7, q8, q9, q10⟩ := id hk
  have e1 : 0 ≤ 5 / o ∧ 5 / o ≤ 5 := by
    have : o = 1 ∨ o = 2 ∨ o = 3 ∨ o = 4 := by omega
    rcases this with rfl | rfl | rfl | rfl <;> decide
  obtain ⟨e1, e2⟩ := e1
  have sz := hw.sz; have HW := Lib.hid hw; clear hw; have HK := Lib.hid hk; clear hk
  go_enter Tryd.func11, Tryd.ntmps11
  go_wp2_with (first | (go_at_call 26; refine (valid_yes _ _ _ _ _ _ (HW.out.alloc _) HK.out).mono ?_; rintro e w1 ⟨rfl, hb1⟩; obtain ⟨hc, hf⟩ := bcell hb1; have hz := hb1.size; simp at hz) | (go_at_call 27; refine (line_any _ _ _ _ _ _ q5 q6 5 (by decide) (by decide)).mono ?_; rintro e w2 ⟨rfl, hb2⟩))
  go_ret
  have h0 := Below.after hb1 ((Below.refl w.heap.size w).alloc (Nat.le_refl _) _) (by simp)
  exact ⟨rfl, Below.after hb2 (by (repeat (first | with_reducible exact Below.refl _ _ | with_reducible assumption | (with_reducible refine Below.alloc ?_ (by first | omega | (simp; done) | (simp; omega)) _) | (with_reducible refine Below.setCell ?_ (by first | omega | (simp; done) | (simp; omega)) _) | (with_reducible refine Below.drew ?_) | (with_reducible refine below_drewN ?_ _)))) (by simp; omega)⟩
set_option maxHeartbeats 400000 in
theorem Lines_no (c h o s y : Int) (w : World) (hw : Bnd w) (hk : ¬ OkG c h o s y)  :
    Calls Tryd.prog 11 #[.agg #[.int .i64 c, .int .i64 h, .int .i64 o, .int .i64 s, .int .i64 y]] w fun e w' => e = .returned (.int .i64 0) ∧ Below w.heap.size w w' := by
  have sz := hw.sz; have HW := Lib.hid hw; clear hw; have HK := Lib.hid hk; clear hk
  go_enter Tryd.func11, Tryd.ntmps11
  go_wp2_with (go_at_call 26; refine (valid_no _ _ _ _ _ _ (HW.out.alloc _) HK.out).mono ?_; rintro e w1 ⟨rfl, hb1⟩; obtain ⟨hc, hf⟩ := bcell hb1; have hz := hb1.size; simp at hz)
  go_ret
  have h0 := Below.after hb1 ((Below.refl w.heap.size w).alloc (Nat.le_refl _) _) (by simp)
  exact ⟨rfl, by (repeat (first | with_reducible exact Below.refl _ _ | with_reducible assumption | (with_reducible refine Below.alloc ?_ (by first | omega | (simp; done) | (simp; omega)) _) | (with_reducible refine Below.setCell ?_ (by first | omega | (simp; done) | (simp; omega)) _) | (with_reducible refine Below.drew ?_) | (with_reducible refine below_drewN ?_ _)))⟩
end Go.Proofs.YtolkajcgddiceaaDoor
