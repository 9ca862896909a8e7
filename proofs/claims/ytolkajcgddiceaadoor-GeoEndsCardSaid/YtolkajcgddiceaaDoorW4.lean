/- Walks of package geo, continued: a word put into data; the reference's functions. -/
import Derived.Test.YtolkajcgddiceaaDoorW3
set_option linter.unusedSimpArgs false
set_option linter.unusedVariables false
namespace Go.Proofs.YtolkajcgddiceaaDoor
open Go.RowKit


/-- A word of the data behind a Put. -/
def putW (l o k v d : Int) : Int := if l % o = k then v else d

set_option maxHeartbeats 1000000 in
theorem Put_yes (c h o s y d0 d1 d2 d3 : Int) (w : World) (hw : Bnd w) (hk : OkG c h o s y) (l : Int) (hl : 0 ≤ l) (hl' : l ≤ 255) (v : Int) (hv : 0 ≤ v) (hv' : v ≤ 255) :
    Calls Tryd.prog 18 #[.agg #[.int .i64 c, .int .i64 h, .int .i64 o, .int .i64 s, .int .i64 y], .agg #[.int .u8 d0, .int .u8 d1, .int .u8 d2, .int .u8 d3], .int .u8 l, .int .u8 v] w fun e w' => e = .returned (.agg #[.int .u8 (putW l o 0 v d0), .int .u8 (putW l o 1 v d1), .int .u8 (putW l o 2 v d2), .int .u8 (putW l o 3 v d3)]) ∧ Below w.heap.size w w' := by
  obtain ⟨q1, q2, q3, q4, q5, q6, q7, q8, q9, q10⟩ := id hk
  obtain ⟨m, hm, h4⟩ := mod4 (l := l) q5 q6
  simp only [putW, hm]
  have HM := Lib.hid hm
  clear hm
  have sz := hw.sz; have HW := Lib.hid hw; clear hw; have HK := Lib.hid hk; clear hk
  rcases h4 with rfl | rfl | rfl | rfl
  all_goals
    go_enter Tryd.func18, Tryd.ntmps18
    go_wp2_with (first | (go_at_call 26; refine (valid_yes _ _ _ _ _ _ (((HW.out.alloc _).alloc _).alloc _) HK.out).mono ?_; rintro e w1 ⟨rfl, hb1⟩; obtain ⟨hc, hf⟩ := bcell hb1; have hz := hb1.size; simp at hz; have hz1 : w.heap.size < w1.heap.size := (by omega); have hz2 : w.heap.size + 1 < w1.heap.size := (by omega); have hz3 : w.heap.size + 2 < w1.heap.size := (by omega); have hz4 : w.heap.size + 1 + 1 < w1.heap.size := (by omega)) | (go_at_call 29; refine (word_is _ _ _ _ _ _ q5 q6 _ hl hl' _ HM.out).mono ?_; rintro e w2 ⟨rfl, hb2⟩; obtain ⟨hc2, hf2⟩ := bcell hb2; have hzb := hb2.size; simp at hzb; have hz5 : w.heap.size + 1 < w2.heap.size := (by omega); have hz6 : w.heap.size + 2 < w2.heap.size := (by omega); have hz7 : w.heap.size + 1 + 1 < w2.heap.size := (by omega)))
    refine bodyPost_ret (v := .agg #[.int .u8 _, .int .u8 _, .int .u8 _, .int .u8 _]) (by simp [results, Tryd.results18, go_sem, hc2, hc, hz1, hz2, hz3, hz4]) rfl ⟨rfl, ?_⟩
    have h0 := Below.after hb1 ((((Below.refl w.heap.size w).alloc (Nat.le_refl _) _).alloc (by simp) _).alloc (by simp; omega) _) (by simp; omega)
    have h1 := Below.after hb2 (h0.alloc (by omega) _) (by simp; omega)
    (repeat (first | with_reducible exact Below.refl _ _ | with_reducible assumption | (with_reducible refine Below.alloc ?_ (by first | omega | (simp; done) | (simp; omega)) _) | (with_reducible refine Below.setCell ?_ (by first | omega | (simp; done) | (simp; omega)) _) | (with_reducible refine Below.drew ?_) | (with_reducible refine below_drewN ?_ _)))
set_option maxHeartbeats 1000000 in
theorem Put_no (c h o s y d0 d1 d2 d3 : Int) (w : World) (hw : Bnd w) (hk : ¬ OkG c h o s y) (l : Int) (hl : 0 ≤ l) (hl' : l ≤ 255) (v : Int) (hv : 0 ≤ v) (hv' : v ≤ 255) :
    Calls Tryd.prog 18 #[.agg #[.int .i64 c, .int .i64 h, .int .i64 o, .int .i64 s, .int .i64 y], .agg #[.int .u8 d0, .int .u8 d1, .int .u8 d2, .int .u8 d3], .int .u8 l, .int .u8 v] w fun e w' => e = .returned (.agg #[.int .u8 d0, .int .u8 d1, .int .u8 d2, .int .u8 d3]) ∧ Below w.heap.size w w' := by
  have sz := hw.sz; have HW := Lib.hid hw; clear hw; have HK := Lib.hid hk; clear hk
  go_enter Tryd.func18, Tryd.ntmps18
  go_wp2_with (go_at_call 26; refine (valid_no _ _ _ _ _ _ (((HW.out.alloc _).alloc _).alloc _) HK.out).mono ?_; rintro e w1 ⟨rfl, hb1⟩; obtain ⟨hc, hf⟩ := bcell hb1; have hz := hb1.size; simp at hz; have hz1 : w.heap.size < w1.heap.size := (by omega); have hz2 : w.heap.size + 1 < w1.heap.size := (by omega); have hz3 : w.heap.size + 2 < w1.heap.size := (by omega); have hz4 : w.heap.size + 1 + 1 < w1.heap.size := (by omega))
  refine bodyPost_ret (v := .agg #[.int .u8 _, .int .u8 _, .int .u8 _, .int .u8 _]) (by simp [results, Tryd.results18, go_sem, hc, hz1, hz2, hz3, hz4]) rfl ⟨rfl, ?_⟩
  have h0 := Below.after hb1 ((((Below.refl w.heap.size w).alloc (Nat.le_refl _) _).alloc (by simp) _).alloc (by simp; omega) _) (by simp; omega)
  (repeat (first | with_reducible exact Below.refl _ _ | with_reducible assumption | (with_reducible refine Below.alloc ?_ (by first | omega | (simp; done) | (simp; omega)) _) | (with_reducible refine Below.setCell ?_ (by first | omega | (simp; done) | (simp; omega)) _) | (with_reducible refine Below.drew ?_) | (with_reducible refine below_drewN ?_ _)))

/-! ### The reference -/
set_option maxHeartbeats 1000000 in
theorem within_any (a b : Int) (w : World) :
    Calls Tryd.prog 42 #[.int .i64 a, .int .i64 b] w fun e w' => e = .returned (.bool (decide (1 ≤ a ∧ a ≤ b))) ∧ w = w' := by
  by_cases h1 : 1 ≤ a
  · by_cases h2 : a ≤ b
    · go_enter Tryd.func42, Tryd.ntmps42
      go_wp2
      go_ret
      exact ⟨ret_bool (by simp; omega), rfl⟩
    · go_enter Tryd.func42, Tryd.ntmps42
      go_wp2
      go_ret
      exact ⟨ret_bool (by simp; omega), rfl⟩
  · go_enter Tryd.func42, Tryd.ntmps42
    go_wp2
    go_ret
    exact ⟨ret_bool (by simp; omega), rfl⟩
/-- Its answer given. -/
theorem within_is (a b : Int) (w : World) (r : Bool) (hr : decide (1 ≤ a ∧ a ≤ b) = r) :
    Calls Tryd.prog 42 #[.int .i64 a, .int .i64 b] w fun e w' => e = .returned (.bool r) ∧ w = w' := hr ▸ within_any a b w

theorem yes_of {p : Prop} [Decidable p] (h : p) : decide p = true := decide_eq_true h
theorem no_of {p : Prop} [Decidable p] (h : ¬ p) : decide p = false := decide_eq_false h
set_option maxHeartbeats 2000000 in
theorem rright_any (c h o s y : Int) (w : World) :
    Calls Tryd.prog 30 #[.agg #[.int .i64 c, .int .i64 h, .int .i64 o, .int .i64 s, .int .i64 y]] w fun e w' => e = .returned (.bool (decide (OkG c h o s y))) ∧ Below w.heap.size w w' := by
  by_cases h1 : 1 ≤ c ∧ c ≤ 4
  · by_cases h2 : 1 ≤ h ∧ h ≤ 2
    · by_cases h3 : 1 ≤ o ∧ o ≤ 4
      · by_cases h4 : 1 ≤ s ∧ s ≤ 4
        · by_cases h5 : 1 ≤ y ∧ y ≤ 4
          · go_enter Tryd.func30, Tryd.ntmps30; go_wp2_with (go_at_call 42; refine (within_is _ _ _ _ (by first | exact yes_of (by omega) | exact no_of (by omega))).mono ?_; rintro e w' ⟨rfl, rfl⟩); go_ret; exact ⟨ret_bool (by simp [OkG_iff]; omega), by (repeat (first | with_reducible exact Below.refl _ _ | with_reducible assumption | (with_reducible refine Below.alloc ?_ (by first | omega | (simp; done) | (simp; omega)) _) | (with_reducible refine Below.setCell ?_ (by first | omega | (simp; done) | (simp; omega)) _) | (with_reducible refine Below.drew ?_) | (with_reducible refine below_drewN ?_ _)))⟩
          · go_enter Tryd.func30, Tryd.ntmps30; go_wp2_with (go_at_call 42; refine (within_is _ _ _ _ (by first | exact yes_of (by omega) | exact no_of (by omega))).mono ?_; rintro e w' ⟨rfl, rfl⟩); go_ret; exact ⟨ret_bool (by simp [OkG_iff]; omega), by (repeat (first | with_reducible exact Below.refl _ _ | with_reducible assumption | (with_reducible refine Below.alloc ?_ (by first | omega | (simp; done) | (simp; omega)) _) | (with_reducible refine Below.setCell ?_ (by first | omega | (simp; done) | (simp; omega)) _) | (with_reducible refine Below.drew ?_) | (with_reducible refine below_drewN ?_ _)))⟩
        · go_enter Tryd.func30, Tryd.ntmps30; go_wp2_with (go_at_call 42; refine (within_is _ _ _ _ (by first | exact yes_of (by omega) | exact no_of (by omega))).mono ?_; rintro e w' ⟨rfl, rfl⟩); go_ret; exact ⟨ret_bool (by simp [OkG_iff]; omega), by (repeat (first | with_reducible exact Below.refl _ _ | with_reducible assumption | (with_reducible refine Below.alloc ?_ (by first | omega | (simp; done) | (simp; omega)) _) | (with_reducible refine Below.setCell ?_ (by first | omega | (simp; done) | (simp; omega)) _) | (with_reducible refine Below.drew ?_) | (with_reducible refine below_drewN ?_ _)))⟩
      · go_enter Tryd.func30, Tryd.ntmps30; go_wp2_with (go_at_call 42; refine (within_is _ _ _ _ (by first | exact yes_of (by omega) | exact no_of (by omega))).mono ?_; rintro e w' ⟨rfl, rfl⟩); go_ret; exact ⟨ret_bool (by simp [OkG_iff]; omega), by (repeat (first | with_reducible exact Below.refl _ _ | with_reducible assumption | (with_reducible refine Below.alloc ?_ (by first | omega | (simp; done) | (simp; omega)) _) | (with_reducible refine Below.setCell ?_ (by first | omega | (simp; done) | (simp; omega)) _) | (with_reducible refine Below.drew ?_) | (with_reducible refine below_drewN ?_ _)))⟩
    · go_enter Tryd.func30, Tryd.ntmps30; go_wp2_with (go_at_call 42; refine (within_is _ _ _ _ (by first | exact yes_of (by omega) | exact no_of (by omega))).mono ?_; rintro e w' ⟨rfl, rfl⟩); go_ret; exact ⟨ret_bool (by simp [OkG_iff]; omega), by (repeat (first | with_reducible exact Below.refl _ _ | with_reducible assumption | (with_reducible refine Below.alloc ?_ (by first | omega | (simp; done) | (simp; omega)) _) | (with_reducible refine Below.setCell ?_ (by first | omega | (simp; done) | (simp; omega)) _) | (with_reducible refine Below.drew ?_) | (with_reducible refine below_drewN ?_ _)))⟩
  · go_enter Tryd.func30, Tryd.ntmps30; go_wp2_with (go_at_call 42; refine (within_is _ _ _ _ (by first | exact yes_of (by omega) | exact no_of (by omega))).mono ?_; rintro e w' ⟨rfl, rfl⟩); go_ret; exact ⟨ret_bool (by simp [OkG_iff]; omega), by (repeat (first | with_reducible exact Below.refl _ _ | with_reducible assumption | (with_reducible refine Below.alloc ?_ (by first | omega | (simp; done) | (simp; omega)) _) | (with_reducible refine Below.setCell ?_ (by first | omega | (simp; done) | (simp; omega)) _) | (with_reducible refine Below.drew ?_) | (with_reducible refine below_drewN ?_ _)))⟩
theorem rright_yes (c h o s y : Int) (w : World) (hk : OkG c h o s y) :
    Calls Tryd.prog 30 #[.agg #[.int .i64 c, .int .i64 h, .int .i64 o, .int .i64 s, .int .i64 y]] w fun e w' => e = .returned (.bool true) ∧ Below w.heap.size w w' := by
  have := rright_any c h o s y w
  rwa [decide_eq_true hk] at this
theorem rright_no (c h o s y : Int) (w : World) (hk : ¬ OkG c h o s y) :
    Calls Tryd.prog 30 #[.agg #[.int .i64 c, .int .i64 h, .int .i64 o, .int .i64 s, .int .i64 y]] w fun e w' => e = .returned (.bool false) ∧ Below w.heap.size w w' := by
  have := rright_any c h o s y w
  rwa [decide_eq_false hk] at this
end Go.Proofs.YtolkajcgddiceaaDoor
