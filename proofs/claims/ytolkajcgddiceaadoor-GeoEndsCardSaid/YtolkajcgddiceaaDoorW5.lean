/- Walks of the reference of package geo, continued. -/
import Derived.Test.YtolkajcgddiceaaDoorW4
set_option linter.unusedSimpArgs false
set_option linter.unusedVariables false
namespace Go.Proofs.YtolkajcgddiceaaDoor
open Go.RowKit



set_option maxHeartbeats 1000000 in
theorem rLine_yes (c h o s y : Int) (w : World) (hk : OkG c h o s y) (l : Int) (hl : 0 ≤ l) (hl' : l ≤ 255) :
    Calls Tryd.prog 32 #[.agg #[.int .i64 c, .int .i64 h, .int .i64 o, .int .i64 s, .int .i64 y], .int .u8 l] w fun e w' => e = .returned (.int .u8 (l / o)) ∧ Below w.heap.size w w' := by
  obtain ⟨q1, q2, q3, q4, q5, q6, q7, q8, q9, q10⟩ := id hk
  have HK := Lib.hid hk; clear hk
  go_enter Tryd.func32, Tryd.ntmps32
  go_wp2_with (go_at_call 30; refine (rright_yes _ _ _ _ _ _ HK.out).mono ?_; rintro e w1 ⟨rfl, hb1⟩; obtain ⟨hc, hf⟩ := bcell hb1; have hz := hb1.size; simp at hz; have hzz : w.heap.size < w1.heap.size := (by omega); have hz1 : w.heap.size + 1 < w1.heap.size + 1 := (by omega))
  go_ret
  have h0 := Below.after hb1 ((Below.refl w.heap.size w).alloc (Nat.le_refl _) _) (by simp)
  exact ⟨rfl, by (repeat (first | with_reducible exact Below.refl _ _ | with_reducible assumption | (with_reducible refine Below.alloc ?_ (by first | omega | (simp; done) | (simp; omega)) _) | (with_reducible refine Below.setCell ?_ (by first | omega | (simp; done) | (simp; omega)) _) | (with_reducible refine Below.drew ?_) | (with_reducible refine below_drewN ?_ _)))⟩
set_option maxHeartbeats 1000000 in
theorem rLine_no (c h o s y : Int) (w : World) (hk : ¬ OkG c h o s y) (l : Int) (hl : 0 ≤ l) (hl' : l ≤ 255) :
    Calls Tryd.prog 32 #[.agg #[.int .i64 c, .int .i64 h, .int .i64 o, .int .i64 s, .int .i64 y], .int .u8 l] w fun e w' => e = .returned (.int .u8 0) ∧ Below w.heap.size w w' := by
  have HK := Lib.hid hk; clear hk
  go_enter Tryd.func32, Tryd.ntmps32
  go_wp2_with (go_at_call 30; refine (rright_no _ _ _ _ _ _ HK.out).mono ?_; rintro e w1 ⟨rfl, hb1⟩; obtain ⟨hc, hf⟩ := bcell hb1; have hz := hb1.size; simp at hz; have hzz : w.heap.size < w1.heap.size := (by omega); have hz1 : w.heap.size + 1 < w1.heap.size + 1 := (by omega))
  go_ret
  have h0 := Below.after hb1 ((Below.refl w.heap.size w).alloc (Nat.le_refl _) _) (by simp)
  exact ⟨rfl, by (repeat (first | with_reducible exact Below.refl _ _ | with_reducible assumption | (with_reducible refine Below.alloc ?_ (by first | omega | (simp; done) | (simp; omega)) _) | (with_reducible refine Below.setCell ?_ (by first | omega | (simp; done) | (simp; omega)) _) | (with_reducible refine Below.drew ?_) | (with_reducible refine below_drewN ?_ _)))⟩
set_option maxHeartbeats 1000000 in
theorem rWord_yes (c h o s y : Int) (w : World) (hk : OkG c h o s y) (l : Int) (hl : 0 ≤ l) (hl' : l ≤ 255) :
    Calls Tryd.prog 31 #[.agg #[.int .i64 c, .int .i64 h, .int .i64 o, .int .i64 s, .int .i64 y], .int .u8 l] w fun e w' => e = .returned (.int .u8 (l % o)) ∧ Below w.heap.size w w' := by
  obtain ⟨q1, q2, q3, q4, q5, q6, q7, q8, q9, q10⟩ := id hk
  have HK := Lib.hid hk; clear hk
  go_enter Tryd.func31, Tryd.ntmps31
  go_wp2_with (go_at_call 30; refine (rright_yes _ _ _ _ _ _ HK.out).mono ?_; rintro e w1 ⟨rfl, hb1⟩; obtain ⟨hc, hf⟩ := bcell hb1; have hz := hb1.size; simp at hz; have hzz : w.heap.size < w1.heap.size := (by omega); have hz1 : w.heap.size + 1 < w1.heap.size + 1 := (by omega))
  go_ret
  have h0 := Below.after hb1 ((Below.refl w.heap.size w).alloc (Nat.le_refl _) _) (by simp)
  exact ⟨rfl, by (repeat (first | with_reducible exact Below.refl _ _ | with_reducible assumption | (with_reducible refine Below.alloc ?_ (by first | omega | (simp; done) | (simp; omega)) _) | (with_reducible refine Below.setCell ?_ (by first | omega | (simp; done) | (simp; omega)) _) | (with_reducible refine Below.drew ?_) | (with_reducible refine below_drewN ?_ _)))⟩
set_option maxHeartbeats 1000000 in
theorem rWord_no (c h o s y : Int) (w : World) (hk : ¬ OkG c h o s y) (l : Int) (hl : 0 ≤ l) (hl' : l ≤ 255) :
    Calls Tryd.prog 31 #[.agg #[.int .i64 c, .int .i64 h, .int .i64 o, .int .i64 s, .int .i64 y], .int .u8 l] w fun e w' => e = .returned (.int .u8 0) ∧ Below w.heap.size w w' := by
  have HK := Lib.hid hk; clear hk
  go_enter Tryd.func31, Tryd.ntmps31
  go_wp2_with (go_at_call 30; refine (rright_no _ _ _ _ _ _ HK.out).mono ?_; rintro e w1 ⟨rfl, hb1⟩; obtain ⟨hc, hf⟩ := bcell hb1; have hz := hb1.size; simp at hz; have hzz : w.heap.size < w1.heap.size := (by omega); have hz1 : w.heap.size + 1 < w1.heap.size + 1 := (by omega))
  go_ret
  have h0 := Below.after hb1 ((Below.refl w.heap.size w).alloc (Nat.le_refl _) _) (by simp)
  exact ⟨rfl, by (repeat (first | with_reducible exact Below.refl _ _ | with_reducible assumption | (with_reducible refine Below.alloc ?_ (by first | omega | (simp; done) | (simp; omega)) _) | (with_reducible refine Below.setCell ?_ (by first | omega | (simp; done) | (simp; omega)) _) | (with_reducible refine Below.drew ?_) | (with_reducible refine below_drewN ?_ _)))⟩
set_option maxHeartbeats 1000000 in
theorem rSet_yes (c h o s y : Int) (w : World) (hk : OkG c h o s y) (l : Int) (hl : 0 ≤ l) (hl' : l ≤ 255) :
    Calls Tryd.prog 33 #[.agg #[.int .i64 c, .int .i64 h, .int .i64 o, .int .i64 s, .int .i64 y], .int .u8 l] w fun e w' => e = .returned (.int .u8 (l % s)) ∧ Below w.heap.size w w' := by
  obtain ⟨q1, q2, q3, q4, q5, q6, q7, q8, q9, q10⟩ := id hk
  have HK := Lib.hid hk; clear hk
  go_enter Tryd.func33, Tryd.ntmps33
  go_wp2_with (go_at_call 30; refine (rright_yes _ _ _ _ _ _ HK.out).mono ?_; rintro e w1 ⟨rfl, hb1⟩; obtain ⟨hc, hf⟩ := bcell hb1; have hz := hb1.size; simp at hz; have hzz : w.heap.size < w1.heap.size := (by omega); have hz1 : w.heap.size + 1 < w1.heap.size + 1 := (by omega))
  go_ret
  have h0 := Below.after hb1 ((Below.refl w.heap.size w).alloc (Nat.le_refl _) _) (by simp)
  exact ⟨rfl, by (repeat (first | with_reducible exact Below.refl _ _ | with_reducible assumption | (with_reducible refine Below.alloc ?_ (by first | omega | (simp; done) | (simp; omega)) _) | (with_reducible refine Below.setCell ?_ (by first | omega | (simp; done) | (simp; omega)) _) | (with_reducible refine Below.drew ?_) | (with_reducible refine below_drewN ?_ _)))⟩
set_option maxHeartbeats 1000000 in
theorem rSet_no (c h o s y : Int) (w : World) (hk : ¬ OkG c h o s y) (l : Int) (hl : 0 ≤ l) (hl' : l ≤ 255) :
    Calls Tryd.prog 33 #[.agg #[.int .i64 c, .int .i64 h, .int .i64 o, .int .i64 s, .int .i64 y], .int .u8 l] w fun e w' => e = .returned (.int .u8 0) ∧ Below w.heap.size w w' := by
  have HK := Lib.hid hk; clear hk
  go_enter Tryd.func33, Tryd.ntmps33
  go_wp2_with (go_at_call 30; refine (rright_no _ _ _ _ _ _ HK.out).mono ?_; rintro e w1 ⟨rfl, hb1⟩; obtain ⟨hc, hf⟩ := bcell hb1; have hz := hb1.size; simp at hz; have hzz : w.heap.size < w1.heap.size := (by omega); have hz1 : w.heap.size + 1 < w1.heap.size + 1 := (by omega))
  go_ret
  have h0 := Below.after hb1 ((Below.refl w.heap.size w).alloc (Nat.le_refl _) _) (by simp)
  exact ⟨rfl, by (repeat (first | with_reducible exact Below.refl _ _ | with_reducible assumption | (with_reducible refine Below.alloc ?_ (by first | omega | (simp; done) | (simp; omega)) _) | (with_reducible refine Below.setCell ?_ (by first | omega | (simp; done) | (simp; omega)) _) | (with_reducible refine Below.drew ?_) | (with_reducible refine below_drewN ?_ _)))⟩
set_option maxHeartbeats 1000000 in
theorem rHome_yes (c h o s y : Int) (w : World) (hk : OkG c h o s y) (l : Int) (hl : 0 ≤ l) (hl' : l ≤ 255) :
    Calls Tryd.prog 34 #[.agg #[.int .i64 c, .int .i64 h, .int .i64 o, .int .i64 s, .int .i64 y], .int .u8 l] w fun e w' => e = .returned (.int .u8 (c + l % h)) ∧ Below w.heap.size w w' := by
  obtain ⟨q1, q2, q3, q4, q5, q6, q7, q8, q9, q10⟩ := id hk
  have HK := Lib.hid hk; clear hk
  go_enter Tryd.func34, Tryd.ntmps34
  go_wp2_with (go_at_call 30; refine (rright_yes _ _ _ _ _ _ HK.out).mono ?_; rintro e w1 ⟨rfl, hb1⟩; obtain ⟨hc, hf⟩ := bcell hb1; have hz := hb1.size; simp at hz; have hzz : w.heap.size < w1.heap.size := (by omega); have hz1 : w.heap.size + 1 < w1.heap.size + 1 := (by omega))
  go_quiet (fail)
  go_wp2
  go_ret
  have h0 := Below.after hb1 ((Below.refl w.heap.size w).alloc (Nat.le_refl _) _) (by simp)
  have e1 := Int.emod_nonneg l (show h ≠ 0 by omega)
  have e2 := Int.emod_lt_of_pos l (show 0 < h by omega)
  exact ⟨ret_int (by omega), by (repeat (first | with_reducible exact Below.refl _ _ | with_reducible assumption | (with_reducible refine Below.alloc ?_ (by first | omega | (simp; done) | (simp; omega)) _) | (with_reducible refine Below.setCell ?_ (by first | omega | (simp; done) | (simp; omega)) _) | (with_reducible refine Below.drew ?_) | (with_reducible refine below_drewN ?_ _)))⟩
set_option maxHeartbeats 1000000 in
theorem rHome_no (c h o s y : Int) (w : World) (hk : ¬ OkG c h o s y) (l : Int) (hl : 0 ≤ l) (hl' : l ≤ 255) :
    Calls Tryd.prog 34 #[.agg #[.int .i64 c, .int .i64 h, .int .i64 o, .int .i64 s, .int .i64 y], .int .u8 l] w fun e w' => e = .returned (.int .u8 0) ∧ Below w.heap.size w w' := by
  have HK := Lib.hid hk; clear hk
  go_enter Tryd.func34, Tryd.ntmps34
  go_wp2_with (go_at_call 30; refine (rright_no _ _ _ _ _ _ HK.out).mono ?_; rintro e w1 ⟨rfl, hb1⟩; obtain ⟨hc, hf⟩ := bcell hb1; have hz := hb1.size; simp at hz; have hzz : w.heap.size < w1.heap.size := (by omega); have hz1 : w.heap.size + 1 < w1.heap.size + 1 := (by omega))
  go_ret
  have h0 := Below.after hb1 ((Below.refl w.heap.size w).alloc (Nat.le_refl _) _) (by simp)
  exact ⟨rfl, by (repeat (first | with_reducible exact Below.refl _ _ | with_reducible assumption | (with_reducible refine Below.alloc ?_ (by first | omega | (simp; done) | (simp; omega)) _) | (with_reducible refine Below.setCell ?_ (by first | omega | (simp; done) | (simp; omega)) _) | (with_reducible refine Below.drew ?_) | (with_reducible refine below_drewN ?_ _)))⟩
set_option maxHeartbeats 1000000 in
theorem rNodes_yes (c h o s y : Int) (w : World) (hk : OkG c h o s y)  :
    Calls Tryd.prog 35 #[.agg #[.int .i64 c, .int .i64 h, .int .i64 o, .int .i64 s, .int .i64 y]] w fun e w' => e = .returned (.int .i64 (c + h)) ∧ Below w.heap.size w w' := by
  obtain ⟨q1, q2, q3, q4, q5, q6, q7, q8, q9, q10⟩ := id hk
  have HK := Lib.hid hk; clear hk
  go_enter Tryd.func35, Tryd.ntmps35
  go_wp2_with (go_at_call 30; refine (rright_yes _ _ _ _ _ _ HK.out).mono ?_; rintro e w1 ⟨rfl, hb1⟩; obtain ⟨hc, hf⟩ := bcell hb1; have hz := hb1.size; simp at hz; have hzz : w.heap.size < w1.heap.size := (by omega); have hz1 : w.heap.size + 1 < w1.heap.size + 1 := (by omega))
  go_ret
  have h0 := Below.after hb1 ((Below.refl w.heap.size w).alloc (Nat.le_refl _) _) (by simp)
  exact ⟨rfl, by (repeat (first | with_reducible exact Below.refl _ _ | with_reducible assumption | (with_reducible refine Below.alloc ?_ (by first | omega | (simp; done) | (simp; omega)) _) | (with_reducible refine Below.setCell ?_ (by first | omega | (simp; done) | (simp; omega)) _) | (with_reducible refine Below.drew ?_) | (with_reducible refine below_drewN ?_ _)))⟩
set_option maxHeartbeats 1000000 in
theorem rNodes_no (c h o s y : Int) (w : World) (hk : ¬ OkG c h o s y)  :
    Calls Tryd.prog 35 #[.agg #[.int .i64 c, .int .i64 h, .int .i64 o, .int .i64 s, .int .i64 y]] w fun e w' => e = .returned (.int .i64 0) ∧ Below w.heap.size w w' := by
  have HK := Lib.hid hk; clear hk
  go_enter Tryd.func35, Tryd.ntmps35
  go_wp2_with (go_at_call 30; refine (rright_no _ _ _ _ _ _ HK.out).mono ?_; rintro e w1 ⟨rfl, hb1⟩; obtain ⟨hc, hf⟩ := bcell hb1; have hz := hb1.size; simp at hz; have hzz : w.heap.size < w1.heap.size := (by omega); have hz1 : w.heap.size + 1 < w1.heap.size + 1 := (by omega))
  go_ret
  have h0 := Below.after hb1 ((Below.refl w.heap.size w).alloc (Nat.le_refl _) _) (by simp)
  exact ⟨rfl, by (repeat (first | with_reducible exact Below.refl _ _ | with_reducible assumption | (with_reducible refine Below.alloc ?_ (by first | omega | (simp; done) | (simp; omega)) _) | (with_reducible refine Below.setCell ?_ (by first | omega | (simp; done) | (simp; omega)) _) | (with_reducible refine Below.drew ?_) | (with_reducible refine below_drewN ?_ _)))⟩
theorem rWord_is (c h o s y : Int) (w : World) (hk : OkG c h o s y) (l : Int) (hl : 0 ≤ l) (hl' : l ≤ 255) (m : Int) (hm : l % o = m) :
    Calls Tryd.prog 31 #[.agg #[.int .i64 c, .int .i64 h, .int .i64 o, .int .i64 s, .int .i64 y], .int .u8 l] w fun e w' => e = .returned (.int .u8 m) ∧ Below w.heap.size w w' := hm ▸ rWord_yes c h o s y w hk l hl hl'
set_option maxHeartbeats 1000000 in
theorem rIsCache_yes (c h o s y : Int) (w : World) (hk : OkG c h o s y) (l : Int) (hl : 0 ≤ l) (hl' : l ≤ 255) :
    Calls Tryd.prog 37 #[.agg #[.int .i64 c, .int .i64 h, .int .i64 o, .int .i64 s, .int .i64 y], .int .u8 l] w fun e w' => e = .returned (.bool (decide (l < c))) ∧ Below w.heap.size w w' := by
  obtain ⟨q1, q2, q3, q4, q5, q6, q7, q8, q9, q10⟩ := id hk
  have HK := Lib.hid hk; clear hk
  by_cases hlt : l < c
  · go_enter Tryd.func37, Tryd.ntmps37
    go_wp2_with (go_at_call 30; refine (rright_yes _ _ _ _ _ _ HK.out).mono ?_; rintro e w1 ⟨rfl, hb1⟩; obtain ⟨hc, hf⟩ := bcell hb1; have hz := hb1.size; simp at hz; have hzz : w.heap.size < w1.heap.size := (by omega); have hz1 : w.heap.size + 1 < w1.heap.size + 1 := (by omega))
    go_ret
    have h0 := Below.after hb1 ((Below.refl w.heap.size w).alloc (Nat.le_refl _) _) (by simp)
    exact ⟨ret_bool (by simp [hlt]), by (repeat (first | with_reducible exact Below.refl _ _ | with_reducible assumption | (with_reducible refine Below.alloc ?_ (by first | omega | (simp; done) | (simp; omega)) _) | (with_reducible refine Below.setCell ?_ (by first | omega | (simp; done) | (simp; omega)) _) | (with_reducible refine Below.drew ?_) | (with_reducible refine below_drewN ?_ _)))⟩
  · go_enter Tryd.func37, Tryd.ntmps37
    go_wp2_with (go_at_call 30; refine (rright_yes _ _ _ _ _ _ HK.out).mono ?_; rintro e w1 ⟨rfl, hb1⟩; obtain ⟨hc, hf⟩ := bcell hb1; have hz := hb1.size; simp at hz; have hzz : w.heap.size < w1.heap.size := (by omega); have hz1 : w.heap.size + 1 < w1.heap.size + 1 := (by omega))
    go_ret
    have h0 := Below.after hb1 ((Below.refl w.heap.size w).alloc (Nat.le_refl _) _) (by simp)
    exact ⟨ret_bool (by simp [hlt]), by (repeat (first | with_reducible exact Below.refl _ _ | with_reducible assumption | (with_reducible refine Below.alloc ?_ (by first | omega | (simp; done) | (simp; omega)) _) | (with_reducible refine Below.setCell ?_ (by first | omega | (simp; done) | (simp; omega)) _) | (with_reducible refine Below.drew ?_) | (with_reducible refine below_drewN ?_ _)))⟩
set_option maxHeartbeats 1000000 in
theorem rIsCache_no (c h o s y : Int) (w : World) (hk : ¬ OkG c h o s y) (l : Int) (hl : 0 ≤ l) (hl' : l ≤ 255) :
    Calls Tryd.prog 37 #[.agg #[.int .i64 c, .int .i64 h, .int .i64 o, .int .i64 s, .int .i64 y], .int .u8 l] w fun e w' => e = .returned (.bool false) ∧ Below w.heap.size w w' := by
  have HK := Lib.hid hk; clear hk
  go_enter Tryd.func37, Tryd.ntmps37
  go_wp2_with (go_at_call 30; refine (rright_no _ _ _ _ _ _ HK.out).mono ?_; rintro e w1 ⟨rfl, hb1⟩; obtain ⟨hc, hf⟩ := bcell hb1; have hz := hb1.size; simp at hz; have hzz : w.heap.size < w1.heap.size := (by omega); have hz1 : w.heap.size + 1 < w1.heap.size + 1 := (by omega))
  go_ret
  have h0 := Below.after hb1 ((Below.refl w.heap.size w).alloc (Nat.le_refl _) _) (by simp)
  exact ⟨rfl, by (repeat (first | with_reducible exact Below.refl _ _ | with_reducible assumption | (with_reducible refine Below.alloc ?_ (by first | omega | (simp; done) | (simp; omega)) _) | (with_reducible refine Below.setCell ?_ (by first | omega | (simp; done) | (simp; omega)) _) | (with_reducible refine Below.drew ?_) | (with_reducible refine below_drewN ?_ _)))⟩
set_option maxHeartbeats 1000000 in
theorem rIsHome_yes (c h o s y : Int) (w : World) (hk : OkG c h o s y) (l : Int) (hl : 0 ≤ l) (hl' : l ≤ 255) :
    Calls Tryd.prog 38 #[.agg #[.int .i64 c, .int .i64 h, .int .i64 o, .int .i64 s, .int .i64 y], .int .u8 l] w fun e w' => e = .returned (.bool (decide (c ≤ l ∧ l < c + h))) ∧ Below w.heap.size w w' := by
  obtain ⟨q1, q2, q3, q4, q5, q6, q7, q8, q9, q10⟩ := id hk
  have HK := Lib.hid hk; clear hk
  by_cases hlt : l < c
  · go_enter Tryd.func38, Tryd.ntmps38; go_wp2_with (go_at_call 30; refine (rright_yes _ _ _ _ _ _ HK.out).mono ?_; rintro e w1 ⟨rfl, hb1⟩; obtain ⟨hc, hf⟩ := bcell hb1; have hz := hb1.size; simp at hz; have hzz : w.heap.size < w1.heap.size := (by omega); have hz1 : w.heap.size + 1 < w1.heap.size + 1 := (by omega)); go_ret; have h0 := Below.after hb1 ((Below.refl w.heap.size w).alloc (Nat.le_refl _) _) (by simp); exact ⟨ret_bool (by simp; omega), by (repeat (first | with_reducible exact Below.refl _ _ | with_reducible assumption | (with_reducible refine Below.alloc ?_ (by first | omega | (simp; done) | (simp; omega)) _) | (with_reducible refine Below.setCell ?_ (by first | omega | (simp; done) | (simp; omega)) _) | (with_reducible refine Below.drew ?_) | (with_reducible refine below_drewN ?_ _)))⟩
  · by_cases hlt2 : l < c + h
    · go_enter Tryd.func38, Tryd.ntmps38; go_wp2_with (go_at_call 30; refine (rright_yes _ _ _ _ _ _ HK.out).mono ?_; rintro e w1 ⟨rfl, hb1⟩; obtain ⟨hc, hf⟩ := bcell hb1; have hz := hb1.size; simp at hz; have hzz : w.heap.size < w1.heap.size := (by omega); have hz1 : w.heap.size + 1 < w1.heap.size + 1 := (by omega)); go_ret; have h0 := Below.after hb1 ((Below.refl w.heap.size w).alloc (Nat.le_refl _) _) (by simp); exact ⟨ret_bool (by simp; omega), by (repeat (first | with_reducible exact Below.refl _ _ | with_reducible assumption | (with_reducible refine Below.alloc ?_ (by first | omega | (simp; done) | (simp; omega)) _) | (with_reducible refine Below.setCell ?_ (by first | omega | (simp; done) | (simp; omega)) _) | (with_reducible refine Below.drew ?_) | (with_reducible refine below_drewN ?_ _)))⟩
    · go_enter Tryd.func38, Tryd.ntmps38; go_wp2_with (go_at_call 30; refine (rright_yes _ _ _ _ _ _ HK.out).mono ?_; rintro e w1 ⟨rfl, hb1⟩; obtain ⟨hc, hf⟩ := bcell hb1; have hz := hb1.size; simp at hz; have hzz : w.heap.size < w1.heap.size := (by omega); have hz1 : w.heap.size + 1 < w1.heap.size + 1 := (by omega)); go_ret; have h0 := Below.after hb1 ((Below.refl w.heap.size w).alloc (Nat.le_refl _) _) (by simp); exact ⟨ret_bool (by simp; omega), by (repeat (first | with_reducible exact Below.refl _ _ | with_reducible assumption | (with_reducible refine Below.alloc ?_ (by first | omega | (simp; done) | (simp; omega)) _) | (with_reducible refine Below.setCell ?_ (by first | omega | (simp; done) | (simp; omega)) _) | (with_reducible refine Below.drew ?_) | (with_reducible refine below_drewN ?_ _)))⟩
set_option maxHeartbeats 1000000 in
theorem rIsHome_no (c h o s y : Int) (w : World) (hk : ¬ OkG c h o s y) (l : Int) (hl : 0 ≤ l) (hl' : l ≤ 255) :
    Calls Tryd.prog 38 #[.agg #[.int .i64 c, .int .i64 h, .int .i64 o, .int .i64 s, .int .i64 y], .int .u8 l] w fun e w' => e = .returned (.bool false) ∧ Below w.heap.size w w' := by
  have HK := Lib.hid hk; clear hk
  go_enter Tryd.func38, Tryd.ntmps38
  go_wp2_with (go_at_call 30; refine (rright_no _ _ _ _ _ _ HK.out).mono ?_; rintro e w1 ⟨rfl, hb1⟩; obtain ⟨hc, hf⟩ := bcell hb1; have hz := hb1.size; simp at hz; have hzz : w.heap.size < w1.heap.size := (by omega); have hz1 : w.heap.size + 1 < w1.heap.size + 1 := (by omega))
  go_ret
  have h0 := Below.after hb1 ((Below.refl w.heap.size w).alloc (Nat.le_refl _) _) (by simp)
  exact ⟨rfl, by (repeat (first | with_reducible exact Below.refl _ _ | with_reducible assumption | (with_reducible refine Below.alloc ?_ (by first | omega | (simp; done) | (simp; omega)) _) | (with_reducible refine Below.setCell ?_ (by first | omega | (simp; done) | (simp; omega)) _) | (with_reducible refine Below.drew ?_) | (with_reducible refine below_drewN ?_ _)))⟩
set_option maxHeartbeats 1000000 in
theorem rGet_yes (c h o s y d0 d1 d2 d3 : Int) (w : World) (hk : OkG c h o s y) (l : Int) (hl : 0 ≤ l) (hl' : l ≤ 255) :
    Calls Tryd.prog 17 #[.agg #[.int .i64 c, .int .i64 h, .int .i64 o, .int .i64 s, .int .i64 y], .agg #[.int .u8 d0, .int .u8 d1, .int .u8 d2, .int .u8 d3], .int .u8 l] w fun e w' => e = .returned (.int .u8 (sel4 d0 d1 d2 d3 (l % o))) ∧ Below w.heap.size w w' := by
  obtain ⟨q1, q2, q3, q4, q5, q6, q7, q8, q9, q10⟩ := id hk
  obtain ⟨m, hm, h4⟩ := mod4 (l := l) q5 q6
  rw [hm]
  have HM := Lib.hid hm
  clear hm
  have HK := Lib.hid hk; clear hk
  rcases h4 with rfl | rfl | rfl | rfl
  all_goals
    go_enter Tryd.func17, Tryd.ntmps17
    go_wp2_with (first | (go_at_call 30; refine (rright_yes _ _ _ _ _ _ HK.out).mono ?_; rintro e w1 ⟨rfl, hb1⟩; obtain ⟨hc, hf⟩ := bcell hb1; have hz := hb1.size; simp at hz; have hz1 : w.heap.size < w1.heap.size := (by omega); have hz2 : w.heap.size + 1 < w1.heap.size := (by omega)) | (go_at_call 31; refine (rWord_is _ _ _ _ _ _ HK.out _ hl hl' _ HM.out).mono ?_; rintro e w2 ⟨rfl, hb2⟩; obtain ⟨hc2, hf2⟩ := bcell hb2; have hzb := hb2.size; (try simp at hzb); have hz5 : w.heap.size < w2.heap.size := (by omega); have hz6 : w.heap.size + 1 < w2.heap.size := (by omega)))
    go_ret
    have h0 := Below.after hb1 (((Below.refl w.heap.size w).alloc (Nat.le_refl _) _).alloc (by simp) _) (by simp; omega)
    exact ⟨rfl, Below.after hb2 (by (repeat (first | with_reducible exact Below.refl _ _ | with_reducible assumption | (with_reducible refine Below.alloc ?_ (by first | omega | (simp; done) | (simp; omega)) _) | (with_reducible refine Below.setCell ?_ (by first | omega | (simp; done) | (simp; omega)) _) | (with_reducible refine Below.drew ?_) | (with_reducible refine below_drewN ?_ _)))) (by first | omega | (simp; done) | (simp; omega))⟩
set_option maxHeartbeats 1000000 in
theorem rGet_no (c h o s y d0 d1 d2 d3 : Int) (w : World) (hk : ¬ OkG c h o s y) (l : Int) (hl : 0 ≤ l) (hl' : l ≤ 255) :
    Calls Tryd.prog 17 #[.agg #[.int .i64 c, .int .i64 h, .int .i64 o, .int .i64 s, .int .i64 y], .agg #[.int .u8 d0, .int .u8 d1, .int .u8 d2, .int .u8 d3], .int .u8 l] w fun e w' => e = .returned (.int .u8 0) ∧ Below w.heap.size w w' := by
  have HK := Lib.hid hk; clear hk
  go_enter Tryd.func17, Tryd.ntmps17
  go_wp2_with (go_at_call 30; refine (rright_no _ _ _ _ _ _ HK.out).mono ?_; rintro e w1 ⟨rfl, hb1⟩; obtain ⟨hc, hf⟩ := bcell hb1; have hz := hb1.size; simp at hz; have hzz : w.heap.size < w1.heap.size := (by omega); have hz1 : w.heap.size + 1 < w1.heap.size + 1 := (by omega))
  go_ret
  have h0 := Below.after hb1 (((Below.refl w.heap.size w).alloc (Nat.le_refl _) _).alloc (by simp) _) (by simp; omega)
  exact ⟨rfl, by (repeat (first | with_reducible exact Below.refl _ _ | with_reducible assumption | (with_reducible refine Below.alloc ?_ (by first | omega | (simp; done) | (simp; omega)) _) | (with_reducible refine Below.setCell ?_ (by first | omega | (simp; done) | (simp; omega)) _) | (with_reducible refine Below.drew ?_) | (with_reducible refine below_drewN ?_ _)))⟩
set_option maxHeartbeats 1000000 in
theorem rPut_yes (c h o s y d0 d1 d2 d3 : Int) (w : World) (hk : OkG c h o s y) (l : Int) (hl : 0 ≤ l) (hl' : l ≤ 255) (v : Int) (hv : 0 ≤ v) (hv' : v ≤ 255) :
    Calls Tryd.prog 19 #[.agg #[.int .i64 c, .int .i64 h, .int .i64 o, .int .i64 s, .int .i64 y], .agg #[.int .u8 d0, .int .u8 d1, .int .u8 d2, .int .u8 d3], .int .u8 l, .int .u8 v] w fun e w' => e = .returned (.agg #[.int .u8 (putW l o 0 v d0), .int .u8 (putW l o 1 v d1), .int .u8 (putW l o 2 v d2), .int .u8 (putW l o 3 v d3)]) ∧ Below w.heap.size w w' := by
  obtain ⟨q1, q2, q3, q4, q5, q6, q7, q8, q9, q10⟩ := id hk
  obtain ⟨m, hm, h4⟩ := mod4 (l := l) q5 q6
  simp only [putW, hm]
  have HM := Lib.hid hm
  clear hm
  have HK := Lib.hid hk; clear hk
  rcases h4 with rfl | rfl | rfl | rfl
  all_goals
    go_enter Tryd.func19, Tryd.ntmps19
    go_wp2_with (first | (go_at_call 30; refine (rright_yes _ _ _ _ _ _ HK.out).mono ?_; rintro e w1 ⟨rfl, hb1⟩; obtain ⟨hc, hf⟩ := bcell hb1; have hz := hb1.size; simp at hz; have hz1 : w.heap.size < w1.heap.size := (by omega); have hz2 : w.heap.size + 1 < w1.heap.size := (by omega); have hz3 : w.heap.size + 2 < w1.heap.size := (by omega); have hz4 : w.heap.size + 1 + 1 < w1.heap.size := (by omega)) | (go_at_call 31; refine (rWord_is _ _ _ _ _ _ HK.out _ hl hl' _ HM.out).mono ?_; rintro e w2 ⟨rfl, hb2⟩; obtain ⟨hc2, hf2⟩ := bcell hb2; have hzb := hb2.size; (try simp at hzb); have hz5 : w.heap.size + 1 < w2.heap.size := (by omega); have hz6 : w.heap.size + 2 < w2.heap.size := (by omega); have hz7 : w.heap.size + 1 + 1 < w2.heap.size := (by omega)))
    refine bodyPost_ret (v := .agg #[.int .u8 _, .int .u8 _, .int .u8 _, .int .u8 _]) (by simp [results, Tryd.results19, go_sem, hc2, hc, hz1, hz2, hz3, hz4, hz5, hz6, hz7]) rfl ⟨rfl, ?_⟩
    have h0 := Below.after hb1 ((((Below.refl w.heap.size w).alloc (Nat.le_refl _) _).alloc (by simp) _).alloc (by simp; omega) _) (by simp; omega)
    have h1 := Below.after hb2 h0 (by omega)
    (repeat (first | with_reducible exact Below.refl _ _ | with_reducible assumption | (with_reducible refine Below.alloc ?_ (by first | omega | (simp; done) | (simp; omega)) _) | (with_reducible refine Below.setCell ?_ (by first | omega | (simp; done) | (simp; omega)) _) | (with_reducible refine Below.drew ?_) | (with_reducible refine below_drewN ?_ _)))
set_option maxHeartbeats 1000000 in
theorem rPut_no (c h o s y d0 d1 d2 d3 : Int) (w : World) (hk : ¬ OkG c h o s y) (l : Int) (hl : 0 ≤ l) (hl' : l ≤ 255) (v : Int) (hv : 0 ≤ v) (hv' : v ≤ 255) :
    Calls Tryd.prog 19 #[.agg #[.int .i64 c, .int .i64 h, .int .i64 o, .int .i64 s, .int .i64 y], .agg #[.int .u8 d0, .int .u8 d1, .int .u8 d2, .int .u8 d3], .int .u8 l, .int .u8 v] w fun e w' => e = .returned (.agg #[.int .u8 d0, .int .u8 d1, .int .u8 d2, .int .u8 d3]) ∧ Below w.heap.size w w' := by
  have HK := Lib.hid hk; clear hk
  go_enter Tryd.func19, Tryd.ntmps19
  go_wp2_with (go_at_call 30; refine (rright_no _ _ _ _ _ _ HK.out).mono ?_; rintro e w1 ⟨rfl, hb1⟩; obtain ⟨hc, hf⟩ := bcell hb1; have hz := hb1.size; simp at hz; have hz1 : w.heap.size < w1.heap.size := (by omega); have hz2 : w.heap.size + 1 < w1.heap.size := (by omega); have hz3 : w.heap.size + 2 < w1.heap.size := (by omega); have hz4 : w.heap.size + 1 + 1 < w1.heap.size := (by omega))
  refine bodyPost_ret (v := .agg #[.int .u8 _, .int .u8 _, .int .u8 _, .int .u8 _]) (by simp [results, Tryd.results19, go_sem, hc, hz1, hz2, hz3, hz4]) rfl ⟨rfl, ?_⟩
  have h0 := Below.after hb1 ((((Below.refl w.heap.size w).alloc (Nat.le_refl _) _).alloc (by simp) _).alloc (by simp; omega) _) (by simp; omega)
  (repeat (first | with_reducible exact Below.refl _ _ | with_reducible assumption | (with_reducible refine Below.alloc ?_ (by first | omega | (simp; done) | (simp; omega)) _) | (with_reducible refine Below.setCell ?_ (by first | omega | (simp; done) | (simp; omega)) _) | (with_reducible refine Below.drew ?_) | (with_reducible refine below_drewN ?_ _)))
end Go.Proofs.YtolkajcgddiceaaDoor
