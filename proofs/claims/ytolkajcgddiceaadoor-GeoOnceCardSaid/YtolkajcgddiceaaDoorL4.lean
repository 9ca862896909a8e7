/- The statement GeoNodes, walked. -/
import Derived.Test.YtolkajcgddiceaaDoorL3
set_option linter.unusedSimpArgs false
set_option linter.unusedVariables false
namespace Go.Proofs.YtolkajcgddiceaaDoor
open Go.RowKit

theorem IsCache_is (c h o s y : Int) (w : World) (hw : Bnd w) (hk : OkG c h o s y) (l : Int) (hl : 0 ≤ l) (hl' : l ≤ 255) (r : Bool) (hr : decide (l < c) = r) :
    Calls Tryd.prog 21 #[.agg #[.int .i64 c, .int .i64 h, .int .i64 o, .int .i64 s, .int .i64 y], .int .u8 l] w fun e w' => e = .returned (.bool r) ∧ Below w.heap.size w w' := hr ▸ IsCache_yes c h o s y w hw hk l hl hl'
theorem IsHome_is (c h o s y : Int) (w : World) (hw : Bnd w) (hk : OkG c h o s y) (l : Int) (hl : 0 ≤ l) (hl' : l ≤ 255) (r : Bool) (hr : decide (c ≤ l ∧ l < c + h) = r) :
    Calls Tryd.prog 22 #[.agg #[.int .i64 c, .int .i64 h, .int .i64 o, .int .i64 s, .int .i64 y], .int .u8 l] w fun e w' => e = .returned (.bool r) ∧ Below w.heap.size w w' := hr ▸ IsHome_yes c h o s y w hw hk l hl hl'
theorem Home_is (c h o s y : Int) (w : World) (hw : Bnd w) (hk : OkG c h o s y) (l : Int) (hl : 0 ≤ l) (hl' : l ≤ 255) (r : Int) (hr : c + l % h = r) :
    Calls Tryd.prog 23 #[.agg #[.int .i64 c, .int .i64 h, .int .i64 o, .int .i64 s, .int .i64 y], .int .u8 l] w fun e w' => e = .returned (.int .u8 r) ∧ Below w.heap.size w w' := hr ▸ Home_yes c h o s y w hw hk l hl hl'
theorem Set_is (c h o s y : Int) (w : World) (hw : Bnd w) (hk : OkG c h o s y) (l : Int) (hl : 0 ≤ l) (hl' : l ≤ 255) (r : Int) (hr : l % s = r) :
    Calls Tryd.prog 24 #[.agg #[.int .i64 c, .int .i64 h, .int .i64 o, .int .i64 s, .int .i64 y], .int .u8 l] w fun e w' => e = .returned (.int .u8 r) ∧ Below w.heap.size w w' := hr ▸ Set_yes c h o s y w hw hk l hl hl'

set_option maxRecDepth 100000 in
set_option maxHeartbeats 4000000 in
theorem GeoNodes_no (c h o s y : Int) (w : World) (hw : Bnd w) (hk : ¬ OkG c h o s y) (l : Int) (hl : 0 ≤ l) (hl' : l ≤ 255) :
    Calls Tryd.prog 7 #[.agg #[.int .i64 c, .int .i64 h, .int .i64 o, .int .i64 s, .int .i64 y], .int .u8 l] w fun e w' => e = .returned (.bool true) ∧ Below w.heap.size w w' := by
  have HK := Lib.hid hk
  clear hk
  have HG := Lib.hid (Rel.Grow.refl (w.alloc (.cells #[.int .i64 c, .int .i64 h, .int .i64 o, .int .i64 s, .int .i64 y] 23))); have HC := Lib.hid (cells_new w #[.int .i64 c, .int .i64 h, .int .i64 o, .int .i64 s, .int .i64 y] 23); have hcx := HC.out; have hsz : w.heap.size < (w.alloc (.cells #[.int .i64 c, .int .i64 h, .int .i64 o, .int .i64 s, .int .i64 y] 23)).heap.size := (by simp); have HB := Lib.hid (hw.alloc (.cells #[.int .i64 c, .int .i64 h, .int .i64 o, .int .i64 s, .int .i64 y] 23))
  clear hw
  go_enter Tryd.func7, Tryd.ntmps7
  go_wp2_with (first | (go_at_call 9; refine (awake_any _ HB.out).mono ?_; rintro e w1 ⟨rfl, hb⟩; (replace HG := Lib.hid (HG.out.trans hb); replace hcx := cells_in HG.out HC.out hsz; replace HB := Lib.hid (HB.out.below hb HB.out.sz); clear hb)) | (go_at_call 10; refine (right_no _ _ _ _ _ _ HB.out HK.out).mono ?_; rintro e w1 ⟨rfl, hb⟩; (replace HG := Lib.hid (HG.out.trans hb); replace hcx := cells_in HG.out HC.out hsz; replace HB := Lib.hid (HB.out.below hb HB.out.sz); clear hb)) | (go_at_call 21; refine (IsCache_no _ _ _ _ _ _ HB.out HK.out l hl hl').mono ?_; rintro e w1 ⟨rfl, hb⟩; (replace HG := Lib.hid (HG.out.trans hb); replace hcx := cells_in HG.out HC.out hsz; replace HB := Lib.hid (HB.out.below hb HB.out.sz); clear hb)) | (go_at_call 22; refine (IsHome_no _ _ _ _ _ _ HB.out HK.out l hl hl').mono ?_; rintro e w1 ⟨rfl, hb⟩; (replace HG := Lib.hid (HG.out.trans hb); replace hcx := cells_in HG.out HC.out hsz; replace HB := Lib.hid (HB.out.below hb HB.out.sz); clear hb)))
  go_ret
  exact ⟨rfl, ((Below.refl w.heap.size w).alloc (Nat.le_refl _) _).trans (HG.out.below (by simp))⟩
theorem low_bd {l : Int} (hl : 0 ≤ l) (hl' : l ≤ 255) : 0 ≤ l / 2 * 2 ∧ l / 2 * 2 ≤ 254 ∧ (l / 2 * 2) % 2 = 0 ∧ (l / 2 * 2 + 1) % 2 = 1 := by omega
set_option maxRecDepth 100000 in
set_option maxHeartbeats 16000000 in
theorem GeoNodes_yes (c h o s y : Int) (w : World) (hw : Bnd w) (hk : OkG c h o s y) (l : Int) (hl : 0 ≤ l) (hl' : l ≤ 255) :
    Calls Tryd.prog 7 #[.agg #[.int .i64 c, .int .i64 h, .int .i64 o, .int .i64 s, .int .i64 y], .int .u8 l] w fun e w' => e = .returned (.bool true) ∧ Below w.heap.size w w' := by
  obtain ⟨q1, q2, q3, q4, q5, q6, q7, q8, q9, q10⟩ := id hk
  have HK := Lib.hid hk
  clear hk
  have HG := Lib.hid (Rel.Grow.refl (w.alloc (.cells #[.int .i64 c, .int .i64 h, .int .i64 o, .int .i64 s, .int .i64 y] 23))); have HC := Lib.hid (cells_new w #[.int .i64 c, .int .i64 h, .int .i64 o, .int .i64 s, .int .i64 y] 23); have hcx := HC.out; have hsz : w.heap.size < (w.alloc (.cells #[.int .i64 c, .int .i64 h, .int .i64 o, .int .i64 s, .int .i64 y] 23)).heap.size := (by simp); have HB := Lib.hid (hw.alloc (.cells #[.int .i64 c, .int .i64 h, .int .i64 o, .int .i64 s, .int .i64 y] 23))
  clear hw
  go_enter Tryd.func7, Tryd.ntmps7
  go_wp2_with (first | (go_at_call 9; refine (awake_any _ HB.out).mono ?_; rintro e w1 ⟨rfl, hb⟩; (replace HG := Lib.hid (HG.out.trans hb); replace hcx := cells_in HG.out HC.out hsz; replace HB := Lib.hid (HB.out.below hb HB.out.sz); clear hb)) | (go_at_call 10; refine (right_yes _ _ _ _ _ _ HB.out HK.out).mono ?_; rintro e w6 ⟨rfl, hb⟩; (replace HG := Lib.hid (HG.out.trans hb); replace hcx := cells_in HG.out HC.out hsz; replace HB := Lib.hid (HB.out.below hb HB.out.sz); clear hb)))
  clear hcx
  go_loopw [5, 6, 7] (fun n _ _ wr => ∃ k : Nat, k ≤ 256 ∧ n = .int .i64 k ∧ Rel.Grow w6 wr) (fun n _ _ _ => 256 - (intOf n).toNat)
  case atStart => exact ⟨0, by omega, rfl, Rel.Grow.refl _⟩
  case round =>
    obtain ⟨k, hk, rfl, hgr⟩ := hrel
    have HR := Lib.hid hgr
    clear hgr
    by_cases hlt : k < 256
    · have hk0 : (0 : Int) ≤ k := by omega
      have hk1 : (k : Int) ≤ 255 := by omega
      by_cases h1 : (k : Int) < c
      · have hbc : decide ((k : Int) < c) = true := by simp [h1]
        have hbh : decide (c ≤ (k : Int) ∧ (k : Int) < c + h) = false := by simp; omega
        go_wp2
        refine Rel.wp_region_lex 10 [⟨[(2, none)], none⟩, ⟨[(5, none)], none⟩, ⟨[(29, some 1)], none⟩, ⟨[(28, some 0), (30, some 2)], none⟩, ⟨[(2, none)], none⟩, ⟨[(5, none)], none⟩, ⟨[(33, some 5)], none⟩, ⟨[(32, some 4), (34, some 6)], none⟩, ⟨[(31, some 3)], none⟩, ⟨[(35, some 7)], none⟩] Rel.Grow (by kernel_rfl) (by kernel_rfl) (by kernel_rfl) Rel.Grow.refl Rel.Grow.trans (Rel.Grow.drew _) ?_
        simp only [List.append_eq, List.cons_append, List.nil_append, List.take_succ_cons, List.take_zero]
        iterate 10 (first
          | (apply Rel.lex_eq; · (simp only [Rel.Knows, Rel.Guarded, List.nil_append, List.cons_append, List.getD_cons_zero, List.getD_cons_succ]; intro a' w' hG; intros; have hcy := cells_in (HG.out.trans (HR.out.trans hG)) HC.out hsz; first | (go_simp; (try go_ints); first | exact ⟨Rel.Grow.refl _, rfl⟩ | (refine Rel.opOk_enter ?_; first | (go_at_call 21; (with_reducible refine (IsCache_is _ _ _ _ _ _ (HB.out.below (HR.out.trans hG) HB.out.sz) HK.out _ hk0 hk1 _ hbc).mono ?_); rintro e w2 ⟨rfl, hb⟩; exact ⟨_, rfl, hb, rfl⟩) | (go_at_call 22; (with_reducible refine (IsHome_is _ _ _ _ _ _ (HB.out.below (HR.out.trans hG) HB.out.sz) HK.out _ hk0 hk1 _ hbh).mono ?_); rintro e w2 ⟨rfl, hb⟩; exact ⟨_, rfl, hb, rfl⟩))) | (refine ⟨_, by assumption, (fun _ => ?_), (fun hh => absurd rfl hh)⟩; go_simp; (try go_ints); first | exact ⟨Rel.Grow.refl _, rfl⟩ | (refine Rel.opOk_enter ?_; first | (go_at_call 21; (with_reducible refine (IsCache_is _ _ _ _ _ _ (HB.out.below (HR.out.trans hG) HB.out.sz) HK.out _ hk0 hk1 _ hbc).mono ?_); rintro e w2 ⟨rfl, hb⟩; exact ⟨_, rfl, hb, rfl⟩) | (go_at_call 22; (with_reducible refine (IsHome_is _ _ _ _ _ _ (HB.out.below (HR.out.trans hG) HB.out.sz) HK.out _ hk0 hk1 _ hbh).mono ?_); rintro e w2 ⟨rfl, hb⟩; exact ⟨_, rfl, hb, rfl⟩))) | (refine ⟨_, by assumption, ?_, (fun _ => rfl)⟩; intro hh; cases hh; done))))
        refine Rel.lex_nil ?_
        intro w7 hG7
        simp only [List.nil_append, List.cons_append]
        repeat (first | with_reducible refine Rel.forAllV_eq ?_ | (with_reducible refine Rel.forAllV_rel ?_; intro _ _))
        with_reducible refine Rel.forAllV_nil ?_
        simp only [List.append_eq, List.cons_append, List.nil_append, Rel.forAllV, Rel.putAll, List.take_succ_cons, List.take_zero, List.drop_succ_cons, List.drop_zero, Act.put, List.setIfInBounds_toArray, List.set_cons_succ, List.set_cons_zero]
        have HG7 := Lib.hid (HR.out.trans hG7)
        have hcy := cells_in (HG.out.trans HG7.out) HC.out hsz
        go_wp2_with (go_at_call 12; refine (Nodes_yes _ _ _ _ _ _ (HB.out.below HG7.out HB.out.sz) HK.out).mono ?_; rintro e w8 ⟨rfl, hb8⟩; have hcz := cells_in (HG.out.trans (HG7.out.trans hb8)) HC.out hsz)
        go_roundw
        case rel => exact ⟨k + 1, by omega, by go_num, HG7.out.trans hb8⟩
        case measure => simp [intOf]; omega
      · by_cases h2 : (k : Int) < c + h
        · have hbc : decide ((k : Int) < c) = false := by simp; omega
          have hbh : decide (c ≤ (k : Int) ∧ (k : Int) < c + h) = true := by simp; omega
          go_wp2
          refine Rel.wp_region_lex 10 [⟨[(2, none)], none⟩, ⟨[(5, none)], none⟩, ⟨[(29, some 1)], none⟩, ⟨[(28, some 0), (30, some 2)], none⟩, ⟨[(2, none)], none⟩, ⟨[(5, none)], none⟩, ⟨[(33, some 5)], none⟩, ⟨[(32, some 4), (34, some 6)], none⟩, ⟨[(31, some 3)], none⟩, ⟨[(35, some 7)], none⟩] Rel.Grow (by kernel_rfl) (by kernel_rfl) (by kernel_rfl) Rel.Grow.refl Rel.Grow.trans (Rel.Grow.drew _) ?_
          simp only [List.append_eq, List.cons_append, List.nil_append, List.take_succ_cons, List.take_zero]
          iterate 10 (first
            | (apply Rel.lex_eq; · (simp only [Rel.Knows, Rel.Guarded, List.nil_append, List.cons_append, List.getD_cons_zero, List.getD_cons_succ]; intro a' w' hG; intros; have hcy := cells_in (HG.out.trans (HR.out.trans hG)) HC.out hsz; first | (go_simp; (try go_ints); first | exact ⟨Rel.Grow.refl _, rfl⟩ | (refine Rel.opOk_enter ?_; first | (go_at_call 21; (with_reducible refine (IsCache_is _ _ _ _ _ _ (HB.out.below (HR.out.trans hG) HB.out.sz) HK.out _ hk0 hk1 _ hbc).mono ?_); rintro e w2 ⟨rfl, hb⟩; exact ⟨_, rfl, hb, rfl⟩) | (go_at_call 22; (with_reducible refine (IsHome_is _ _ _ _ _ _ (HB.out.below (HR.out.trans hG) HB.out.sz) HK.out _ hk0 hk1 _ hbh).mono ?_); rintro e w2 ⟨rfl, hb⟩; exact ⟨_, rfl, hb, rfl⟩))) | (refine ⟨_, by assumption, (fun _ => ?_), (fun hh => absurd rfl hh)⟩; go_simp; (try go_ints); first | exact ⟨Rel.Grow.refl _, rfl⟩ | (refine Rel.opOk_enter ?_; first | (go_at_call 21; (with_reducible refine (IsCache_is _ _ _ _ _ _ (HB.out.below (HR.out.trans hG) HB.out.sz) HK.out _ hk0 hk1 _ hbc).mono ?_); rintro e w2 ⟨rfl, hb⟩; exact ⟨_, rfl, hb, rfl⟩) | (go_at_call 22; (with_reducible refine (IsHome_is _ _ _ _ _ _ (HB.out.below (HR.out.trans hG) HB.out.sz) HK.out _ hk0 hk1 _ hbh).mono ?_); rintro e w2 ⟨rfl, hb⟩; exact ⟨_, rfl, hb, rfl⟩))) | (refine ⟨_, by assumption, ?_, (fun _ => rfl)⟩; intro hh; cases hh; done))))
          refine Rel.lex_nil ?_
          intro w7 hG7
          simp only [List.nil_append, List.cons_append]
          repeat (first | with_reducible refine Rel.forAllV_eq ?_ | (with_reducible refine Rel.forAllV_rel ?_; intro _ _))
          with_reducible refine Rel.forAllV_nil ?_
          simp only [List.append_eq, List.cons_append, List.nil_append, Rel.forAllV, Rel.putAll, List.take_succ_cons, List.take_zero, List.drop_succ_cons, List.drop_zero, Act.put, List.setIfInBounds_toArray, List.set_cons_succ, List.set_cons_zero]
          have HG7 := Lib.hid (HR.out.trans hG7)
          have hcy := cells_in (HG.out.trans HG7.out) HC.out hsz
          go_wp2_with (go_at_call 12; refine (Nodes_yes _ _ _ _ _ _ (HB.out.below HG7.out HB.out.sz) HK.out).mono ?_; rintro e w8 ⟨rfl, hb8⟩; have hcz := cells_in (HG.out.trans (HG7.out.trans hb8)) HC.out hsz)
          go_roundw
          case rel => exact ⟨k + 1, by omega, by go_num, HG7.out.trans hb8⟩
          case measure => simp [intOf]; omega
        · have hbc : decide ((k : Int) < c) = false := by simp; omega
          have hbh : decide (c ≤ (k : Int) ∧ (k : Int) < c + h) = false := by simp; omega
          go_wp2
          refine Rel.wp_region_lex 10 [⟨[(2, none)], none⟩, ⟨[(5, none)], none⟩, ⟨[(29, some 1)], none⟩, ⟨[(28, some 0), (30, some 2)], none⟩, ⟨[(2, none)], none⟩, ⟨[(5, none)], none⟩, ⟨[(33, some 5)], none⟩, ⟨[(32, some 4), (34, some 6)], none⟩, ⟨[(31, some 3)], none⟩, ⟨[(35, some 7)], none⟩] Rel.Grow (by kernel_rfl) (by kernel_rfl) (by kernel_rfl) Rel.Grow.refl Rel.Grow.trans (Rel.Grow.drew _) ?_
          simp only [List.append_eq, List.cons_append, List.nil_append, List.take_succ_cons, List.take_zero]
          iterate 10 (first
            | (apply Rel.lex_eq; · (simp only [Rel.Knows, Rel.Guarded, List.nil_append, List.cons_append, List.getD_cons_zero, List.getD_cons_succ]; intro a' w' hG; intros; have hcy := cells_in (HG.out.trans (HR.out.trans hG)) HC.out hsz; first | (go_simp; (try go_ints); first | exact ⟨Rel.Grow.refl _, rfl⟩ | (refine Rel.opOk_enter ?_; first | (go_at_call 21; (with_reducible refine (IsCache_is _ _ _ _ _ _ (HB.out.below (HR.out.trans hG) HB.out.sz) HK.out _ hk0 hk1 _ hbc).mono ?_); rintro e w2 ⟨rfl, hb⟩; exact ⟨_, rfl, hb, rfl⟩) | (go_at_call 22; (with_reducible refine (IsHome_is _ _ _ _ _ _ (HB.out.below (HR.out.trans hG) HB.out.sz) HK.out _ hk0 hk1 _ hbh).mono ?_); rintro e w2 ⟨rfl, hb⟩; exact ⟨_, rfl, hb, rfl⟩))) | (refine ⟨_, by assumption, (fun _ => ?_), (fun hh => absurd rfl hh)⟩; go_simp; (try go_ints); first | exact ⟨Rel.Grow.refl _, rfl⟩ | (refine Rel.opOk_enter ?_; first | (go_at_call 21; (with_reducible refine (IsCache_is _ _ _ _ _ _ (HB.out.below (HR.out.trans hG) HB.out.sz) HK.out _ hk0 hk1 _ hbc).mono ?_); rintro e w2 ⟨rfl, hb⟩; exact ⟨_, rfl, hb, rfl⟩) | (go_at_call 22; (with_reducible refine (IsHome_is _ _ _ _ _ _ (HB.out.below (HR.out.trans hG) HB.out.sz) HK.out _ hk0 hk1 _ hbh).mono ?_); rintro e w2 ⟨rfl, hb⟩; exact ⟨_, rfl, hb, rfl⟩))) | (refine ⟨_, by assumption, ?_, (fun _ => rfl)⟩; intro hh; cases hh; done))))
          refine Rel.lex_nil ?_
          intro w7 hG7
          simp only [List.nil_append, List.cons_append]
          repeat (first | with_reducible refine Rel.forAllV_eq ?_ | (with_reducible refine Rel.forAllV_rel ?_; intro _ _))
          with_reducible refine Rel.forAllV_nil ?_
          simp only [List.append_eq, List.cons_append, List.nil_append, Rel.forAllV, Rel.putAll, List.take_succ_cons, List.take_zero, List.drop_succ_cons, List.drop_zero, Act.put, List.setIfInBounds_toArray, List.set_cons_succ, List.set_cons_zero]
          have HG7 := Lib.hid (HR.out.trans hG7)
          have hcy := cells_in (HG.out.trans HG7.out) HC.out hsz
          go_wp2_with (go_at_call 12; refine (Nodes_yes _ _ _ _ _ _ (HB.out.below HG7.out HB.out.sz) HK.out).mono ?_; rintro e w8 ⟨rfl, hb8⟩; have hcz := cells_in (HG.out.trans (HG7.out.trans hb8)) HC.out hsz)
          go_roundw
          case rel => exact ⟨k + 1, by omega, by go_num, HG7.out.trans hb8⟩
          case measure => simp [intOf]; omega
    · obtain rfl : k = 256 := by omega
      obtain ⟨lb0, lb1, lb2, lb3⟩ := low_bd hl hl'
      have hs1 := Int.emod_nonneg l (show s ≠ 0 by omega)
      have hs2 := Int.emod_lt_of_pos l (show 0 < s by omega)
      obtain ⟨st, hst⟩ : ∃ st, l % s = st := ⟨_, rfl⟩
      rw [hst] at hs1 hs2
      have HST := Lib.hid hst
      obtain ⟨low, hlow⟩ : ∃ low, l / 2 * 2 = low := ⟨_, rfl⟩
      have HLOW := Lib.hid hlow
      have lb4 : low ≤ 255 := by omega
      have lb5 : 0 ≤ low + 1 := by omega
      have lb6 : low + 1 ≤ 255 := by omega
      have lb7 : 0 ≤ low := by omega
      have hh : h = 1 ∨ h = 2 := by omega
      obtain ⟨hm, hhm⟩ : ∃ hm, c + l % h = hm := ⟨_, rfl⟩
      have hb1 : c ≤ hm ∧ hm < c + h := by
        have := Int.emod_nonneg l (show h ≠ 0 by omega)
        have := Int.emod_lt_of_pos l (show 0 < h by omega)
        omega
      have hm1 : 0 ≤ hm := by omega
      have hm2 : hm ≤ 255 := by omega
      have hbh : decide (c ≤ hm ∧ hm < c + h) = true := by simp; omega
      have HBH := Lib.hid hbh
      have HM := Lib.hid hhm
      have HL0 : Hid (low % 2 = 0) := Lib.hid (by omega)
      have HL1 : Hid ((low + 1) % 2 = 1) := Lib.hid (by omega)
      clear hst hbh hhm lb2 lb3 hb1
      rcases hh with rfl | rfl
      · go_wp2
        (try rw [hlow])
        clear hlow
        refine Rel.wp_region_lex 39 [⟨[(2, none)], none⟩, ⟨[(2, none)], none⟩, ⟨[(1, none)], none⟩, ⟨[(63, some 1), (64, some 2)], none⟩, ⟨[(62, some 0), (65, some 3)], none⟩, ⟨[(66, some 4)], none⟩, ⟨[(2, none), (67, some 5)], some (67, true)⟩, ⟨[(1, none), (67, some 5)], some (67, true)⟩, ⟨[(68, some 6), (69, some 7), (67, some 5)], some (67, true)⟩, ⟨[(70, some 8), (67, some 5)], some (67, true)⟩, ⟨[(2, none), (67, some 5)], some (67, true)⟩, ⟨[(72, some 10), (67, some 5)], some (67, true)⟩, ⟨[(71, some 9), (73, some 11), (67, some 5)], some (67, true)⟩, ⟨[(67, some 5), (74, some 12)], none⟩, ⟨[(75, some 13)], none⟩, ⟨[(2, none), (76, some 14)], some (76, true)⟩, ⟨[(8, none), (76, some 14)], some (76, true)⟩, ⟨[(77, some 15), (78, some 16), (76, some 14)], some (76, true)⟩, ⟨[(2, none), (76, some 14)], some (76, true)⟩, ⟨[(8, none), (76, some 14)], some (76, true)⟩, ⟨[(81, some 19), (76, some 14)], some (76, true)⟩, ⟨[(80, some 18), (82, some 20), (76, some 14)], some (76, true)⟩, ⟨[(79, some 17), (83, some 21), (76, some 14)], some (76, true)⟩, ⟨[(2, none), (76, some 14)], some (76, true)⟩, ⟨[(85, some 23), (76, some 14)], some (76, true)⟩, ⟨[(86, some 24), (76, some 14)], some (76, true)⟩, ⟨[(84, some 22), (87, some 25), (76, some 14)], some (76, true)⟩, ⟨[(76, some 14), (88, some 26)], none⟩, ⟨[(89, some 27)], none⟩, ⟨[(2, none), (90, some 28)], some (90, true)⟩, ⟨[(91, some 29), (90, some 28)], some (90, true)⟩, ⟨[(2, none), (90, some 28)], some (90, true)⟩, ⟨[(93, some 31), (90, some 28)], some (90, true)⟩, ⟨[(2, none), (90, some 28)], some (90, true)⟩, ⟨[(95, some 33), (90, some 28)], some (90, true)⟩, ⟨[(94, some 32), (96, some 34), (90, some 28)], some (90, true)⟩, ⟨[(92, some 30), (97, some 35), (90, some 28)], some (90, true)⟩, ⟨[(90, some 28), (98, some 36)], none⟩, ⟨[(99, some 37)], none⟩] Rel.Grow (by kernel_rfl) (by kernel_rfl) (by kernel_rfl) Rel.Grow.refl Rel.Grow.trans (Rel.Grow.drew _) ?_
        simp only [List.append_eq, List.cons_append, List.nil_append, List.take_succ_cons, List.take_zero]
        iterate 39 (first
          | (apply Rel.lex_eq; · (simp only [Rel.Knows, Rel.Guarded, List.nil_append, List.cons_append, List.getD_cons_zero, List.getD_cons_succ]; intro a' w' hG; intros; have hcy := cells_in (HG.out.trans (HR.out.trans hG)) HC.out hsz; first | (go_simp; (try go_ints); first | exact ⟨Rel.Grow.refl _, rfl⟩ | (refine Rel.opOk_enter ?_; first | (go_at_call 23; (with_reducible refine (Home_is _ _ _ _ _ _ (HB.out.below (HR.out.trans hG) HB.out.sz) HK.out l hl hl' _ HM.out).mono ?_); rintro e w2 ⟨rfl, hb⟩; exact ⟨_, rfl, hb, rfl⟩) | (go_at_call 23; (with_reducible refine (Home_is c 1 o s y _ (HB.out.below (HR.out.trans hG) HB.out.sz) HK.out low lb7 lb4 c (by rw [Int.emod_one]; omega)).mono ?_); rintro e w2 ⟨rfl, hb⟩; exact ⟨_, rfl, hb, rfl⟩) | (go_at_call 23; (with_reducible refine (Home_is c 1 o s y _ (HB.out.below (HR.out.trans hG) HB.out.sz) HK.out (low + 1) lb5 lb6 c (by rw [Int.emod_one]; omega)).mono ?_); rintro e w2 ⟨rfl, hb⟩; exact ⟨_, rfl, hb, rfl⟩) | (go_at_call 22; (with_reducible refine (IsHome_is _ _ _ _ _ _ (HB.out.below (HR.out.trans hG) HB.out.sz) HK.out hm hm1 hm2 _ HBH.out).mono ?_); rintro e w2 ⟨rfl, hb⟩; exact ⟨_, rfl, hb, rfl⟩) | (go_at_call 24; (with_reducible refine (Set_is _ _ _ _ _ _ (HB.out.below (HR.out.trans hG) HB.out.sz) HK.out l hl hl' _ HST.out).mono ?_); rintro e w2 ⟨rfl, hb⟩; exact ⟨_, rfl, hb, rfl⟩) | (go_at_call 12; (with_reducible refine (Nodes_yes _ _ _ _ _ _ (HB.out.below (HR.out.trans hG) HB.out.sz) HK.out).mono ?_); rintro e w2 ⟨rfl, hb⟩; exact ⟨_, rfl, hb, rfl⟩))) | (refine ⟨_, by assumption, (fun _ => ?_), (fun hh => absurd rfl hh)⟩; go_simp; (try go_ints); first | exact ⟨Rel.Grow.refl _, rfl⟩ | (refine Rel.opOk_enter ?_; first | (go_at_call 23; (with_reducible refine (Home_is _ _ _ _ _ _ (HB.out.below (HR.out.trans hG) HB.out.sz) HK.out l hl hl' _ HM.out).mono ?_); rintro e w2 ⟨rfl, hb⟩; exact ⟨_, rfl, hb, rfl⟩) | (go_at_call 23; (with_reducible refine (Home_is c 1 o s y _ (HB.out.below (HR.out.trans hG) HB.out.sz) HK.out low lb7 lb4 c (by rw [Int.emod_one]; omega)).mono ?_); rintro e w2 ⟨rfl, hb⟩; exact ⟨_, rfl, hb, rfl⟩) | (go_at_call 23; (with_reducible refine (Home_is c 1 o s y _ (HB.out.below (HR.out.trans hG) HB.out.sz) HK.out (low + 1) lb5 lb6 c (by rw [Int.emod_one]; omega)).mono ?_); rintro e w2 ⟨rfl, hb⟩; exact ⟨_, rfl, hb, rfl⟩) | (go_at_call 22; (with_reducible refine (IsHome_is _ _ _ _ _ _ (HB.out.below (HR.out.trans hG) HB.out.sz) HK.out hm hm1 hm2 _ HBH.out).mono ?_); rintro e w2 ⟨rfl, hb⟩; exact ⟨_, rfl, hb, rfl⟩) | (go_at_call 24; (with_reducible refine (Set_is _ _ _ _ _ _ (HB.out.below (HR.out.trans hG) HB.out.sz) HK.out l hl hl' _ HST.out).mono ?_); rintro e w2 ⟨rfl, hb⟩; exact ⟨_, rfl, hb, rfl⟩) | (go_at_call 12; (with_reducible refine (Nodes_yes _ _ _ _ _ _ (HB.out.below (HR.out.trans hG) HB.out.sz) HK.out).mono ?_); rintro e w2 ⟨rfl, hb⟩; exact ⟨_, rfl, hb, rfl⟩))) | (refine ⟨_, by assumption, ?_, (fun _ => rfl)⟩; intro hh; cases hh; done))))
        refine Rel.lex_nil ?_
        intro w7 hG7
        simp only [List.nil_append, List.cons_append]
        repeat (first | with_reducible refine Rel.forAllV_eq ?_ | (with_reducible refine Rel.forAllV_rel ?_; intro _ _))
        with_reducible refine Rel.forAllV_nil ?_
        simp only [List.append_eq, List.cons_append, List.nil_append, Rel.forAllV, Rel.putAll, List.take_succ_cons, List.take_zero, List.drop_succ_cons, List.drop_zero, Act.put, List.setIfInBounds_toArray, List.set_cons_succ, List.set_cons_zero]
        go_wp2
        go_ret
        exact ⟨rfl, ((Below.refl w.heap.size w).alloc (Nat.le_refl _) _).trans ((HG.out.trans (HR.out.trans hG7)).below (by simp))⟩
      · have hcc : (c == c + 1) = false := by simp; omega
        go_wp2
        (try rw [hlow])
        clear hlow
        refine Rel.wp_region_lex 39 [⟨[(2, none)], none⟩, ⟨[(2, none)], none⟩, ⟨[(1, none)], none⟩, ⟨[(63, some 1), (64, some 2)], none⟩, ⟨[(62, some 0), (65, some 3)], none⟩, ⟨[(66, some 4)], none⟩, ⟨[(2, none), (67, some 5)], some (67, true)⟩, ⟨[(1, none), (67, some 5)], some (67, true)⟩, ⟨[(68, some 6), (69, some 7), (67, some 5)], some (67, true)⟩, ⟨[(70, some 8), (67, some 5)], some (67, true)⟩, ⟨[(2, none), (67, some 5)], some (67, true)⟩, ⟨[(72, some 10), (67, some 5)], some (67, true)⟩, ⟨[(71, some 9), (73, some 11), (67, some 5)], some (67, true)⟩, ⟨[(67, some 5), (74, some 12)], none⟩, ⟨[(75, some 13)], none⟩, ⟨[(2, none), (76, some 14)], some (76, true)⟩, ⟨[(8, none), (76, some 14)], some (76, true)⟩, ⟨[(77, some 15), (78, some 16), (76, some 14)], some (76, true)⟩, ⟨[(2, none), (76, some 14)], some (76, true)⟩, ⟨[(8, none), (76, some 14)], some (76, true)⟩, ⟨[(81, some 19), (76, some 14)], some (76, true)⟩, ⟨[(80, some 18), (82, some 20), (76, some 14)], some (76, true)⟩, ⟨[(79, some 17), (83, some 21), (76, some 14)], some (76, true)⟩, ⟨[(2, none), (76, some 14)], some (76, true)⟩, ⟨[(85, some 23), (76, some 14)], some (76, true)⟩, ⟨[(86, some 24), (76, some 14)], some (76, true)⟩, ⟨[(84, some 22), (87, some 25), (76, some 14)], some (76, true)⟩, ⟨[(76, some 14), (88, some 26)], none⟩, ⟨[(89, some 27)], none⟩, ⟨[(2, none), (90, some 28)], some (90, true)⟩, ⟨[(91, some 29), (90, some 28)], some (90, true)⟩, ⟨[(2, none), (90, some 28)], some (90, true)⟩, ⟨[(93, some 31), (90, some 28)], some (90, true)⟩, ⟨[(2, none), (90, some 28)], some (90, true)⟩, ⟨[(95, some 33), (90, some 28)], some (90, true)⟩, ⟨[(94, some 32), (96, some 34), (90, some 28)], some (90, true)⟩, ⟨[(92, some 30), (97, some 35), (90, some 28)], some (90, true)⟩, ⟨[(90, some 28), (98, some 36)], none⟩, ⟨[(99, some 37)], none⟩] Rel.Grow (by kernel_rfl) (by kernel_rfl) (by kernel_rfl) Rel.Grow.refl Rel.Grow.trans (Rel.Grow.drew _) ?_
        simp only [List.append_eq, List.cons_append, List.nil_append, List.take_succ_cons, List.take_zero]
        iterate 39 (first
          | (apply Rel.lex_eq; · (simp only [Rel.Knows, Rel.Guarded, List.nil_append, List.cons_append, List.getD_cons_zero, List.getD_cons_succ]; intro a' w' hG; intros; have hcy := cells_in (HG.out.trans (HR.out.trans hG)) HC.out hsz; first | (go_simp; (try go_ints); first | exact ⟨Rel.Grow.refl _, rfl⟩ | (refine Rel.opOk_enter ?_; first | (go_at_call 23; (with_reducible refine (Home_is _ _ _ _ _ _ (HB.out.below (HR.out.trans hG) HB.out.sz) HK.out l hl hl' _ HM.out).mono ?_); rintro e w2 ⟨rfl, hb⟩; exact ⟨_, rfl, hb, rfl⟩) | (go_at_call 23; (with_reducible refine (Home_is c 2 o s y _ (HB.out.below (HR.out.trans hG) HB.out.sz) HK.out low lb7 lb4 c (by have := HL0.out; omega)).mono ?_); rintro e w2 ⟨rfl, hb⟩; exact ⟨_, rfl, hb, rfl⟩) | (go_at_call 23; (with_reducible refine (Home_is c 2 o s y _ (HB.out.below (HR.out.trans hG) HB.out.sz) HK.out (low + 1) lb5 lb6 (c + 1) (by have := HL1.out; omega)).mono ?_); rintro e w2 ⟨rfl, hb⟩; exact ⟨_, rfl, hb, rfl⟩) | (go_at_call 22; (with_reducible refine (IsHome_is _ _ _ _ _ _ (HB.out.below (HR.out.trans hG) HB.out.sz) HK.out hm hm1 hm2 _ HBH.out).mono ?_); rintro e w2 ⟨rfl, hb⟩; exact ⟨_, rfl, hb, rfl⟩) | (go_at_call 24; (with_reducible refine (Set_is _ _ _ _ _ _ (HB.out.below (HR.out.trans hG) HB.out.sz) HK.out l hl hl' _ HST.out).mono ?_); rintro e w2 ⟨rfl, hb⟩; exact ⟨_, rfl, hb, rfl⟩) | (go_at_call 12; (with_reducible refine (Nodes_yes _ _ _ _ _ _ (HB.out.below (HR.out.trans hG) HB.out.sz) HK.out).mono ?_); rintro e w2 ⟨rfl, hb⟩; exact ⟨_, rfl, hb, rfl⟩))) | (refine ⟨_, by assumption, (fun _ => ?_), (fun hh => absurd rfl hh)⟩; go_simp; (try go_ints); first | exact ⟨Rel.Grow.refl _, rfl⟩ | (refine Rel.opOk_enter ?_; first | (go_at_call 23; (with_reducible refine (Home_is _ _ _ _ _ _ (HB.out.below (HR.out.trans hG) HB.out.sz) HK.out l hl hl' _ HM.out).mono ?_); rintro e w2 ⟨rfl, hb⟩; exact ⟨_, rfl, hb, rfl⟩) | (go_at_call 23; (with_reducible refine (Home_is c 2 o s y _ (HB.out.below (HR.out.trans hG) HB.out.sz) HK.out low lb7 lb4 c (by have := HL0.out; omega)).mono ?_); rintro e w2 ⟨rfl, hb⟩; exact ⟨_, rfl, hb, rfl⟩) | (go_at_call 23; (with_reducible refine (Home_is c 2 o s y _ (HB.out.below (HR.out.trans hG) HB.out.sz) HK.out (low + 1) lb5 lb6 (c + 1) (by have := HL1.out; omega)).mono ?_); rintro e w2 ⟨rfl, hb⟩; exact ⟨_, rfl, hb, rfl⟩) | (go_at_call 22; (with_reducible refine (IsHome_is _ _ _ _ _ _ (HB.out.below (HR.out.trans hG) HB.out.sz) HK.out hm hm1 hm2 _ HBH.out).mono ?_); rintro e w2 ⟨rfl, hb⟩; exact ⟨_, rfl, hb, rfl⟩) | (go_at_call 24; (with_reducible refine (Set_is _ _ _ _ _ _ (HB.out.below (HR.out.trans hG) HB.out.sz) HK.out l hl hl' _ HST.out).mono ?_); rintro e w2 ⟨rfl, hb⟩; exact ⟨_, rfl, hb, rfl⟩) | (go_at_call 12; (with_reducible refine (Nodes_yes _ _ _ _ _ _ (HB.out.below (HR.out.trans hG) HB.out.sz) HK.out).mono ?_); rintro e w2 ⟨rfl, hb⟩; exact ⟨_, rfl, hb, rfl⟩))) | (refine ⟨_, by assumption, ?_, (fun _ => rfl)⟩; intro hh; cases hh; done))))
        refine Rel.lex_nil ?_
        intro w7 hG7
        simp only [List.nil_append, List.cons_append]
        repeat (first | with_reducible refine Rel.forAllV_eq ?_ | (with_reducible refine Rel.forAllV_rel ?_; intro _ _))
        with_reducible refine Rel.forAllV_nil ?_
        simp only [List.append_eq, List.cons_append, List.nil_append, Rel.forAllV, Rel.putAll, List.take_succ_cons, List.take_zero, List.drop_succ_cons, List.drop_zero, Act.put, List.setIfInBounds_toArray, List.set_cons_succ, List.set_cons_zero]
        go_wp2
        go_ret
        exact ⟨rfl, ((Below.refl w.heap.size w).alloc (Nat.le_refl _) _).trans ((HG.out.trans (HR.out.trans hG7)).below (by simp))⟩
theorem GeoNodes_any (c h o s y : Int) (w : World) (hw : Bnd w) (l : Int) (hl : 0 ≤ l) (hl' : l ≤ 255) :
    Calls Tryd.prog 7 #[.agg #[.int .i64 c, .int .i64 h, .int .i64 o, .int .i64 s, .int .i64 y], .int .u8 l] w fun e w' => e = .returned (.bool true) ∧ Below w.heap.size w w' := by
  by_cases hk : OkG c h o s y
  · exact GeoNodes_yes c h o s y w hw hk l hl hl'
  · exact GeoNodes_no c h o s y w hw hk l hl hl'
end Go.Proofs.YtolkajcgddiceaaDoor
