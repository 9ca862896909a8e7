/- Walks of package geo, continued: nodes, and words of data. -/
import Derived.Test.YtolkajcgddiceaaDoorW2
set_option linter.unusedSimpArgs false
set_option linter.unusedVariables false
namespace Go.Proofs.YtolkajcgddiceaaDoor
open Go.RowKit

set_option maxHeartbeats 400000 in
theorem IsCache_yes (c h o s y : Int) (w : World) (hw : Bnd w) (hk : OkG c h o s y) (l : Int) (hl : 0 ≤ l) (hl' : l ≤ 255) :
    Calls Tryd.prog 21 #[.agg #[.int .i64 c, .int .i64 h, .int .i64 o, .int .i64 s, .int .i64 y], .int .u8 l] w fun e w' => e = .returned (.bool (decide (l < c))) ∧ Below w.heap.size w w' := by
  obtain ⟨q1, q2, q3, q4, q5, q6, q7, q8, q9, q10⟩ := id hk
  have sz := hw.sz; have HW := Lib.hid hw; clear hw; have HK := Lib.hid hk; clear hk
  go_enter Tryd.func21, Tryd.ntmps21
  by_cases hlt : l < c
  · go_wp2_with (first | (go_at_call 26; refine (valid_yes _ _ _ _ _ _ (HW.out.alloc _) HK.out).mono ?_; rintro e w1 ⟨rfl, hb1⟩; obtain ⟨hc, hf⟩ := bcell hb1; have hz := hb1.size; simp at hz; have hzz : w.heap.size < w1.heap.size := (by omega); have hz1 : w.heap.size + 1 < w1.heap.size + 1 := (by omega)) | go_in)
    go_ret
    have h0 := Below.after hb1 ((Below.refl w.heap.size w).alloc (Nat.le_refl _) _) (by simp)
    exact ⟨ret_bool (by simp [hlt]), by (repeat (first | with_reducible exact Below.refl _ _ | with_reducible assumption | (with_reducible refine Below.alloc ?_ (by first | omega | (simp; done) | (simp; omega)) _) | (with_reducible refine Below.setCell ?_ (by first | omega | (simp; done) | (simp; omega)) _) | (with_reducible refine Below.drew ?_) | (with_reducible refine below_drewN ?_ _)))⟩
  · go_wp2_with (first | (go_at_call 26; refine (valid_yes _ _ _ _ _ _ (HW.out.alloc _) HK.out).mono ?_; rintro e w1 ⟨rfl, hb1⟩; obtain ⟨hc, hf⟩ := bcell hb1; have hz := hb1.size; simp at hz; have hzz : w.heap.size < w1.heap.size := (by omega); have hz1 : w.heap.size + 1 < w1.heap.size + 1 := (by omega)) | go_in)
    go_ret
    have h0 := Below.after hb1 ((Below.refl w.heap.size w).alloc (Nat.le_refl _) _) (by simp)
    exact ⟨ret_bool (by simp [hlt]), by (repeat (first | with_reducible exact Below.refl _ _ | with_reducible assumption | (with_reducible refine Below.alloc ?_ (by first | omega | (simp; done) | (simp; omega)) _) | (with_reducible refine Below.setCell ?_ (by first | omega | (simp; done) | (simp; omega)) _) | (with_reducible refine Below.drew ?_) | (with_reducible refine below_drewN ?_ _)))⟩
set_option maxHeartbeats 400000 in
theorem IsCache_no (c h o s y : Int) (w : World) (hw : Bnd w) (hk : ¬ OkG c h o s y) (l : Int) (hl : 0 ≤ l) (hl' : l ≤ 255) :
    Calls Tryd.prog 21 #[.agg #[.int .i64 c, .int .i64 h, .int .i64 o, .int .i64 s, .int .i64 y], .int .u8 l] w fun e w' => e = .returned (.bool false) ∧ Below w.heap.size w w' := by
  have sz := hw.sz; have HW := Lib.hid hw; clear hw; have HK := Lib.hid hk; clear hk
  go_enter Tryd.func21, Tryd.ntmps21
  go_wp2_with (go_at_call 26; refine (valid_no _ _ _ _ _ _ (HW.out.alloc _) HK.out).mono ?_; rintro e w1 ⟨rfl, hb1⟩; obtain ⟨hc, hf⟩ := bcell hb1; have hz := hb1.size; simp at hz; have hzz : w.heap.size < w1.heap.size := (by omega); have hz1 : w.heap.size + 1 < w1.heap.size + 1 := (by omega))
  go_ret
  have h0 := Below.after hb1 ((Below.refl w.heap.size w).alloc (Nat.le_refl _) _) (by simp)
  exact ⟨rfl, by (repeat (first | with_reducible exact Below.refl _ _ | with_reducible assumption | (with_reducible refine Below.alloc ?_ (by first | omega | (simp; done) | (simp; omega)) _) | (with_reducible refine Below.setCell ?_ (by first | omega | (simp; done) | (simp; omega)) _) | (with_reducible refine Below.drew ?_) | (with_reducible refine below_drewN ?_ _)))⟩
set_option maxHeartbeats 400000 in
theorem IsHome_yes (c h o s y : Int) (w : World) (hw : Bnd w) (hk : OkG c h o s y) (l : Int) (hl : 0 ≤ l) (hl' : l ≤ 255) :
    Calls Tryd.prog 22 #[.agg #[.int .i64 c, .int .i64 h, .int .i64 o, .int .i64 s, .int .i64 y], .int .u8 l] w fun e w' => e = .returned (.bool (decide (c ≤ l ∧ l < c + h))) ∧ Below w.heap.size w w' := by
  obtain ⟨q1, q2, q3, q4, q5, q6, q7, q8, q9, q10⟩ := id hk
  have sz := hw.sz; have HW := Lib.hid hw; clear hw; have HK := Lib.hid hk; clear hk
  go_enter Tryd.func22, Tryd.ntmps22
  by_cases hlt : l < c
  · go_wp2_with (first | (go_at_call 26; refine (valid_yes _ _ _ _ _ _ (HW.out.alloc _) HK.out).mono ?_; rintro e w1 ⟨rfl, hb1⟩; obtain ⟨hc, hf⟩ := bcell hb1; have hz := hb1.size; simp at hz; have hzz : w.heap.size < w1.heap.size := (by omega); have hz1 : w.heap.size + 1 < w1.heap.size + 1 := (by omega)) | go_in)
    go_ret
    have h0 := Below.after hb1 ((Below.refl w.heap.size w).alloc (Nat.le_refl _) _) (by simp)
    exact ⟨ret_bool (by simp; omega), by (repeat (first | with_reducible exact Below.refl _ _ | with_reducible assumption | (with_reducible refine Below.alloc ?_ (by first | omega | (simp; done) | (simp; omega)) _) | (with_reducible refine Below.setCell ?_ (by first | omega | (simp; done) | (simp; omega)) _) | (with_reducible refine Below.drew ?_) | (with_reducible refine below_drewN ?_ _)))⟩
  · by_cases hlt2 : l < c + h
    · go_wp2_with (first | (go_at_call 26; refine (valid_yes _ _ _ _ _ _ (HW.out.alloc _) HK.out).mono ?_; rintro e w1 ⟨rfl, hb1⟩; obtain ⟨hc, hf⟩ := bcell hb1; have hz := hb1.size; simp at hz; have hzz : w.heap.size < w1.heap.size := (by omega); have hz1 : w.heap.size + 1 < w1.heap.size + 1 := (by omega)) | go_in)
      go_ret
      have h0 := Below.after hb1 ((Below.refl w.heap.size w).alloc (Nat.le_refl _) _) (by simp)
      exact ⟨ret_bool (by simp; omega), by (repeat (first | with_reducible exact Below.refl _ _ | with_reducible assumption | (with_reducible refine Below.alloc ?_ (by first | omega | (simp; done) | (simp; omega)) _) | (with_reducible refine Below.setCell ?_ (by first | omega | (simp; done) | (simp; omega)) _) | (with_reducible refine Below.drew ?_) | (with_reducible refine below_drewN ?_ _)))⟩
    · go_wp2_with (first | (go_at_call 26; refine (valid_yes _ _ _ _ _ _ (HW.out.alloc _) HK.out).mono ?_; rintro e w1 ⟨rfl, hb1⟩; obtain ⟨hc, hf⟩ := bcell hb1; have hz := hb1.size; simp at hz; have hzz : w.heap.size < w1.heap.size := (by omega); have hz1 : w.heap.size + 1 < w1.heap.size + 1 := (by omega)) | go_in)
      go_ret
      have h0 := Below.after hb1 ((Below.refl w.heap.size w).alloc (Nat.le_refl _) _) (by simp)
      exact ⟨ret_bool (by simp; omega), by (repeat (first | with_reducible exact Below.refl _ _ | with_reducible assumption | (with_reducible refine Below.alloc ?_ (by first | omega | (simp; done) | (simp; omega)) _) | (with_reducible refine Below.setCell ?_ (by first | omega | (simp; done) | (simp; omega)) _) | (with_reducible refine Below.drew ?_) | (with_reducible refine below_drewN ?_ _)))⟩
set_option maxHeartbeats 400000 in
theorem IsHome_no (c h o s y : Int) (w : World) (hw : Bnd w) (hk : ¬ OkG c h o s y) (l : Int) (hl : 0 ≤ l) (hl' : l ≤ 255) :
    Calls Tryd.prog 22 #[.agg #[.int .i64 c, .int .i64 h, .int .i64 o, .int .i64 s, .int .i64 y], .int .u8 l] w fun e w' => e = .returned (.bool false) ∧ Below w.heap.size w w' := by
  have sz := hw.sz; have HW := Lib.hid hw; clear hw; have HK := Lib.hid hk; clear hk
  go_enter Tryd.func22, Tryd.ntmps22
  go_wp2_with (go_at_call 26; refine (valid_no _ _ _ _ _ _ (HW.out.alloc _) HK.out).mono ?_; rintro e w1 ⟨rfl, hb1⟩; obtain ⟨hc, hf⟩ := bcell hb1; have hz := hb1.size; simp at hz; have hzz : w.heap.size < w1.heap.size := (by omega); have hz1 : w.heap.size + 1 < w1.heap.size + 1 := (by omega))
  go_ret
  have h0 := Below.after hb1 ((Below.refl w.heap.size w).alloc (Nat.le_refl _) _) (by simp)
  exact ⟨rfl, by (repeat (first | with_reducible exact Below.refl _ _ | with_reducible assumption | (with_reducible refine Below.alloc ?_ (by first | omega | (simp; done) | (simp; omega)) _) | (with_reducible refine Below.setCell ?_ (by first | omega | (simp; done) | (simp; omega)) _) | (with_reducible refine Below.drew ?_) | (with_reducible refine below_drewN ?_ _)))⟩

/-- One of four. -/
def sel4 (a b c d m : Int) : Int := if m = 0 then a else if m = 1 then b else if m = 2 then c else d
/-- The word contract, its result a letter. -/
theorem word_is (c h o s y : Int) (w : World) (ho : 1 ≤ o) (ho' : o ≤ 4) (l : Int) (hl : 0 ≤ l) (hl' : l ≤ 255) (m : Int) (hm : l % o = m) :
    Calls Tryd.prog 29 #[.agg #[.int .i64 c, .int .i64 h, .int .i64 o, .int .i64 s, .int .i64 y], .int .u8 l] w fun e w' => e = .returned (.int .u8 m) ∧ Below w.heap.size w w' := hm ▸ word_any c h o s y w ho ho' l hl hl'
theorem mod4 {l o : Int} (ho : 1 ≤ o) (ho' : o ≤ 4) : ∃ m, l % o = m ∧ (m = 0 ∨ m = 1 ∨ m = 2 ∨ m = 3) :=
  ⟨_, rfl, by have := Int.emod_nonneg l (show o ≠ 0 by omega); have := Int.emod_lt_of_pos l (show 0 < o by omega); omega⟩

set_option maxHeartbeats 1000000 in
theorem Get_yes (c h o s y d0 d1 d2 d3 : Int) (w : World) (hw : Bnd w) (hk : OkG c h o s y) (l : Int) (hl : 0 ≤ l) (hl' : l ≤ 255) :
    Calls Tryd.prog 16 #[.agg #[.int .i64 c, .int .i64 h, .int .i64 o, .int .i64 s, .int .i64 y], .agg #[.int .u8 d0, .int .u8 d1, .int .u8 d2, .int .u8 d3], .int .u8 l] w fun e w' => e = .returned (.int .u8 (sel4 d0 d1 d2 d3 (l % o))) ∧ Below w.heap.size w w' := by
  obtain ⟨q1, q2, q3, q4, q5, q6, q7, q8, q9, q10⟩ := id hk
  obtain ⟨m, hm, h4⟩ := mod4 (l := l) q5 q6
  rw [hm]
  have HM := Lib.hid hm
  clear hm
  have sz := hw.sz; have HW := Lib.hid hw; clear hw; have HK := Lib.hid hk; clear hk
  rcases h4 with rfl | rfl | rfl | rfl
  all_goals
    go_enter Tryd.func16, Tryd.ntmps16
    go_wp2_with (first | (go_at_call 26; refine (valid_yes _ _ _ _ _ _ ((HW.out.alloc _).alloc _) HK.out).mono ?_; rintro e w1 ⟨rfl, hb1⟩; obtain ⟨hc, hf⟩ := bcell hb1; have hz := hb1.size; simp at hz; have hzz : w.heap.size < w1.heap.size := (by omega); have hz1 : w.heap.size + 1 < w1.heap.size + 1 := (by omega);have hz3 : w.heap.size + 1 < w1.heap.size := (by omega)) | (go_at_call 29; refine (word_is _ _ _ _ _ _ q5 q6 _ hl hl' _ HM.out).mono ?_; rintro e w2 ⟨rfl, hb2⟩; obtain ⟨hc2, hf2⟩ := bcell hb2; have hz2 := hb2.size; simp at hz2))
    go_ret
    have h0 := Below.after hb1 (((Below.refl w.heap.size w).alloc (Nat.le_refl _) _).alloc (by simp) _) (by simp; omega)
    exact ⟨rfl, Below.after hb2 (by (repeat (first | with_reducible exact Below.refl _ _ | with_reducible assumption | (with_reducible refine Below.alloc ?_ (by first | omega | (simp; done) | (simp; omega)) _) | (with_reducible refine Below.setCell ?_ (by first | omega | (simp; done) | (simp; omega)) _) | (with_reducible refine Below.drew ?_) | (with_reducible refine below_drewN ?_ _)))) (by simp; omega)⟩
set_option maxHeartbeats 400000 in
theorem Get_no (c h o s y d0 d1 d2 d3 : Int) (w : World) (hw : Bnd w) (hk : ¬ OkG c h o s y) (l : Int) (hl : 0 ≤ l) (hl' : l ≤ 255) :
    Calls Tryd.prog 16 #[.agg #[.int .i64 c, .int .i64 h, .int .i64 o, .int .i64 s, .int .i64 y], .agg #[.int .u8 d0, .int .u8 d1, .int .u8 d2, .int .u8 d3], .int .u8 l] w fun e w' => e = .returned (.int .u8 0) ∧ Below w.heap.size w w' := by
  have sz := hw.sz; have HW := Lib.hid hw; clear hw; have HK := Lib.hid hk; clear hk
  go_enter Tryd.func16, Tryd.ntmps16
  go_wp2_with (go_at_call 26; refine (valid_no _ _ _ _ _ _ ((HW.out.alloc _).alloc _) HK.out).mono ?_; rintro e w1 ⟨rfl, hb1⟩; obtain ⟨hc, hf⟩ := bcell hb1; have hz := hb1.size; simp at hz; have hzz : w.heap.size < w1.heap.size := (by omega); have hz1 : w.heap.size + 1 < w1.heap.size + 1 := (by omega);have hz3 : w.heap.size + 1 < w1.heap.size := (by omega))
  go_ret
  have h0 := Below.after hb1 (((Below.refl w.heap.size w).alloc (Nat.le_refl _) _).alloc (by simp) _) (by simp; omega)
  exact ⟨rfl, by (repeat (first | with_reducible exact Below.refl _ _ | with_reducible assumption | (with_reducible refine Below.alloc ?_ (by first | omega | (simp; done) | (simp; omega)) _) | (with_reducible refine Below.setCell ?_ (by first | omega | (simp; done) | (simp; omega)) _) | (with_reducible refine Below.drew ?_) | (with_reducible refine below_drewN ?_ _)))⟩
end Go.Proofs.YtolkajcgddiceaaDoor
