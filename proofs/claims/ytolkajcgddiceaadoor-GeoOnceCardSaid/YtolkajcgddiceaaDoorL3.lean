/- The statement GeoKeeps, walked. -/
import Derived.Test.YtolkajcgddiceaaDoorL2
set_option linter.unusedSimpArgs false
set_option linter.unusedVariables false
namespace Go.Proofs.YtolkajcgddiceaaDoor
open Go.RowKit

theorem Get_is (c h o s y d0 d1 d2 d3 : Int) (w : World) (hw : Bnd w) (hk : OkG c h o s y) (l : Int) (hl : 0 ≤ l) (hl' : l ≤ 255) (r : Int) (hr : sel4 d0 d1 d2 d3 (l % o) = r) :
    Calls Tryd.prog 16 #[.agg #[.int .i64 c, .int .i64 h, .int .i64 o, .int .i64 s, .int .i64 y], .agg #[.int .u8 d0, .int .u8 d1, .int .u8 d2, .int .u8 d3], .int .u8 l] w fun e w' => e = .returned (.int .u8 r) ∧ Below w.heap.size w w' := hr ▸ Get_yes c h o s y d0 d1 d2 d3 w hw hk l hl hl'
theorem Line_is (c h o s y : Int) (w : World) (hw : Bnd w) (hk : OkG c h o s y) (l : Int) (hl : 0 ≤ l) (hl' : l ≤ 255) (r : Int) (hr : l / o = r) :
    Calls Tryd.prog 14 #[.agg #[.int .i64 c, .int .i64 h, .int .i64 o, .int .i64 s, .int .i64 y], .int .u8 l] w fun e w' => e = .returned (.int .u8 r) ∧ Below w.heap.size w w' := hr ▸ Line_yes c h o s y w hw hk l hl hl'
theorem Put_is (c h o s y d0 d1 d2 d3 : Int) (w : World) (hw : Bnd w) (hk : OkG c h o s y) (l : Int) (hl : 0 ≤ l) (hl' : l ≤ 255) (v : Int) (hv : 0 ≤ v) (hv' : v ≤ 255) (e0 e1 e2 e3 : Int) (h0 : putW l o 0 v d0 = e0) (h1 : putW l o 1 v d1 = e1) (h2 : putW l o 2 v d2 = e2) (h3 : putW l o 3 v d3 = e3) :
    Calls Tryd.prog 18 #[.agg #[.int .i64 c, .int .i64 h, .int .i64 o, .int .i64 s, .int .i64 y], .agg #[.int .u8 d0, .int .u8 d1, .int .u8 d2, .int .u8 d3], .int .u8 l, .int .u8 v] w fun e w' => e = .returned (.agg #[.int .u8 e0, .int .u8 e1, .int .u8 e2, .int .u8 e3]) ∧ Below w.heap.size w w' := by
  subst h0 h1 h2 h3
  exact Put_yes c h o s y d0 d1 d2 d3 w hw hk l hl hl' v hv hv'
theorem sel_put {l o v d0 d1 d2 d3 : Int} (ho : 1 ≤ o) (ho' : o ≤ 4) : sel4 (putW l o 0 v d0) (putW l o 1 v d1) (putW l o 2 v d2) (putW l o 3 v d3) (l % o) = v := by
  obtain ⟨m, hm, h4⟩ := mod4 (l := l) ho ho'
  simp only [sel4, putW, hm]
  rcases h4 with rfl | rfl | rfl | rfl <;> simp
theorem put_back {l o v d0 d1 d2 d3 : Int} (ho : 1 ≤ o) (ho' : o ≤ 4) : putW l o 0 (sel4 d0 d1 d2 d3 (l % o)) (putW l o 0 v d0) = d0 ∧ putW l o 1 (sel4 d0 d1 d2 d3 (l % o)) (putW l o 1 v d1) = d1 ∧ putW l o 2 (sel4 d0 d1 d2 d3 (l % o)) (putW l o 2 v d2) = d2 ∧ putW l o 3 (sel4 d0 d1 d2 d3 (l % o)) (putW l o 3 v d3) = d3 := by
  obtain ⟨m, hm, h4⟩ := mod4 (l := l) ho ho'
  simp only [sel4, putW, hm]
  rcases h4 with rfl | rfl | rfl | rfl <;> simp
theorem sel_other {l k o v d0 d1 d2 d3 : Int} (ho : 1 ≤ o) (ho' : o ≤ 4) (he : k / o = l / o) (hne : k ≠ l) : sel4 (putW l o 0 v d0) (putW l o 1 v d1) (putW l o 2 v d2) (putW l o 3 v d3) (k % o) = sel4 d0 d1 d2 d3 (k % o) := by
  have hd : k % o ≠ l % o := fun h => hne (by rw [← Int.mul_ediv_add_emod k o, ← Int.mul_ediv_add_emod l o, he, h])
  obtain ⟨m, hm, h4⟩ := mod4 (l := l) ho ho'
  obtain ⟨q, hq, h5⟩ := mod4 (l := k) ho ho'
  rw [hm, hq] at hd
  simp only [sel4, putW, hm, hq]
  rcases h4 with rfl | rfl | rfl | rfl <;> rcases h5 with rfl | rfl | rfl | rfl <;> first | exact absurd rfl hd | simp
theorem sel_bd {d0 d1 d2 d3 m : Int} (h0 : 0 ≤ d0 ∧ d0 ≤ 255) (h1 : 0 ≤ d1 ∧ d1 ≤ 255) (h2 : 0 ≤ d2 ∧ d2 ≤ 255) (h3 : 0 ≤ d3 ∧ d3 ≤ 255) : 0 ≤ sel4 d0 d1 d2 d3 m ∧ sel4 d0 d1 d2 d3 m ≤ 255 := by
  unfold sel4
  split
  · exact h0
  · split
    · exact h1
    · split
      · exact h2
      · exact h3

set_option maxRecDepth 100000 in
set_option maxHeartbeats 4000000 in
theorem GeoKeeps_no (c h o s y d0 d1 d2 d3 : Int) (w : World) (hw : Bnd w) (hk : ¬ OkG c h o s y) (l : Int) (hl : 0 ≤ l) (hl' : l ≤ 255) (v : Int) (hv : 0 ≤ v) (hv' : v ≤ 255) :
    Calls Tryd.prog 5 #[.agg #[.int .i64 c, .int .i64 h, .int .i64 o, .int .i64 s, .int .i64 y], .agg #[.int .u8 d0, .int .u8 d1, .int .u8 d2, .int .u8 d3], .int .u8 l, .int .u8 v] w fun e w' => e = .returned (.bool true) ∧ Below w.heap.size w w' := by
  have HK := Lib.hid hk
  clear hk
  have heq := eqDataSame
  have HC := Lib.hid (cells_new2 w #[.int .i64 c, .int .i64 h, .int .i64 o, .int .i64 s, .int .i64 y] #[.int .u8 d0, .int .u8 d1, .int .u8 d2, .int .u8 d3] 23 32); have hsz : w.heap.size < ((w.alloc (.cells #[.int .i64 c, .int .i64 h, .int .i64 o, .int .i64 s, .int .i64 y] 23)).alloc (.cells #[.int .u8 d0, .int .u8 d1, .int .u8 d2, .int .u8 d3] 32)).heap.size := (by simp; omega); have hsz1 : w.heap.size + 1 < ((w.alloc (.cells #[.int .i64 c, .int .i64 h, .int .i64 o, .int .i64 s, .int .i64 y] 23)).alloc (.cells #[.int .u8 d0, .int .u8 d1, .int .u8 d2, .int .u8 d3] 32)).heap.size := (by simp); have HB := Lib.hid ((hw.alloc (.cells #[.int .i64 c, .int .i64 h, .int .i64 o, .int .i64 s, .int .i64 y] 23)).alloc (.cells #[.int .u8 d0, .int .u8 d1, .int .u8 d2, .int .u8 d3] 32))
  have HG := Lib.hid (Rel.Grow.refl ((w.alloc (.cells #[.int .i64 c, .int .i64 h, .int .i64 o, .int .i64 s, .int .i64 y] 23)).alloc (.cells #[.int .u8 d0, .int .u8 d1, .int .u8 d2, .int .u8 d3] 32)))
  have hcy := HC.out.1
  clear hw
  go_enter Tryd.func5, Tryd.ntmps5
  go_wp2_with (first | (go_at_call 9; refine (awake_any _ HB.out).mono ?_; rintro e w1 ⟨rfl, hb⟩; replace HG := Lib.hid (HG.out.trans hb); replace hcy := cells_in HG.out HC.out.1 hsz; replace HB := Lib.hid (HB.out.below hb HB.out.sz); clear hb) | (go_at_call 10; refine (right_no _ _ _ _ _ _ HB.out HK.out).mono ?_; rintro e w2 ⟨rfl, hb⟩; replace HG := Lib.hid (HG.out.trans hb); replace hcy := cells_in HG.out HC.out.1 hsz; replace HB := Lib.hid (HB.out.below hb HB.out.sz); clear hb))
  clear hcy
  refine Rel.wp_region_lex 15 [⟨[(4, none)], none⟩, ⟨[(5, none)], none⟩, ⟨[(2, none)], none⟩, ⟨[(3, none)], none⟩, ⟨[(18, some 0), (19, some 1), (20, some 2), (21, some 3)], none⟩, ⟨[(5, none)], none⟩, ⟨[(22, some 4), (23, some 5)], none⟩, ⟨[(24, some 6)], none⟩, ⟨[(4, none), (25, some 7)], some (25, true)⟩, ⟨[(5, none), (25, some 7)], some (25, true)⟩, ⟨[(2, none), (25, some 7)], some (25, true)⟩, ⟨[(26, some 8), (27, some 9), (28, some 10), (25, some 7)], some (25, true)⟩, ⟨[(29, some 11), (25, some 7)], some (25, true)⟩, ⟨[(25, some 7), (30, some 12)], none⟩, ⟨[(31, some 13)], none⟩] Rel.Grow (by kernel_rfl) (by kernel_rfl) (by kernel_rfl) Rel.Grow.refl Rel.Grow.trans (Rel.Grow.drew _) ?_
  simp only [List.append_eq, List.cons_append, List.nil_append, List.take_succ_cons, List.take_zero]
  iterate 15 (first
    | (apply Rel.lex_eq; · (simp only [Rel.Knows, Rel.Guarded, List.nil_append, List.cons_append, List.getD_cons_zero, List.getD_cons_succ]; intro a' w' hG; intros; have hcy := cells_in (HG.out.trans hG) HC.out.1 hsz; have hcz := cells_in (HG.out.trans hG) HC.out.2 hsz1; first | (go_simp; (try go_ints); first | exact ⟨Rel.Grow.refl _, rfl⟩ | (refine Rel.opOk_enter ?_; first | (go_at_call 18; (with_reducible refine (Put_no _ _ _ _ _ _ _ _ _ _ (HB.out.below hG HB.out.sz) HK.out l hl hl' v hv hv').mono ?_); rintro e w2 ⟨rfl, hb⟩; exact ⟨_, rfl, hb, rfl⟩) | (go_at_call 16; (with_reducible refine (Get_no _ _ _ _ _ _ _ _ _ _ (HB.out.below hG HB.out.sz) HK.out l hl hl').mono ?_); rintro e w2 ⟨rfl, hb⟩; exact ⟨_, rfl, hb, rfl⟩))) | (refine ⟨_, by assumption, (fun _ => ?_), (fun hh => absurd rfl hh)⟩; go_simp; (try go_ints); first | exact ⟨Rel.Grow.refl _, rfl⟩ | (refine Rel.opOk_enter ?_; first | (go_at_call 18; (with_reducible refine (Put_no _ _ _ _ _ _ _ _ _ _ (HB.out.below hG HB.out.sz) HK.out l hl hl' v hv hv').mono ?_); rintro e w2 ⟨rfl, hb⟩; exact ⟨_, rfl, hb, rfl⟩) | (go_at_call 16; (with_reducible refine (Get_no _ _ _ _ _ _ _ _ _ _ (HB.out.below hG HB.out.sz) HK.out l hl hl').mono ?_); rintro e w2 ⟨rfl, hb⟩; exact ⟨_, rfl, hb, rfl⟩))) | (refine ⟨_, by assumption, ?_, (fun _ => rfl)⟩; intro hh; cases hh; done))))
  refine Rel.lex_nil ?_
  intro w2 hG
  simp only [List.nil_append, List.cons_append]
  repeat (first | with_reducible refine Rel.forAllV_eq ?_ | (with_reducible refine Rel.forAllV_rel ?_; intro _ _))
  with_reducible refine Rel.forAllV_nil ?_
  simp only [List.append_eq, List.cons_append, List.nil_append, Rel.forAllV, Rel.putAll, List.take_succ_cons, List.take_zero, List.drop_succ_cons, List.drop_zero, Act.put, List.setIfInBounds_toArray, List.set_cons_succ, List.set_cons_zero]
  go_wp2
  go_ret
  exact ⟨rfl, (((Below.refl w.heap.size w).alloc (Nat.le_refl _) _).alloc (by simp) _).trans ((HG.out.trans hG).below (by simp; omega))⟩

set_option maxRecDepth 100000 in
set_option maxHeartbeats 16000000 in
theorem GeoKeeps_yes (c h o s y d0 d1 d2 d3 : Int) (w : World) (hw : Bnd w) (hk : OkG c h o s y) (l : Int) (hl : 0 ≤ l) (hl' : l ≤ 255) (v : Int) (hv : 0 ≤ v) (hv' : v ≤ 255) (b0 : 0 ≤ d0 ∧ d0 ≤ 255) (b1 : 0 ≤ d1 ∧ d1 ≤ 255) (b2 : 0 ≤ d2 ∧ d2 ≤ 255) (b3 : 0 ≤ d3 ∧ d3 ≤ 255) :
    Calls Tryd.prog 5 #[.agg #[.int .i64 c, .int .i64 h, .int .i64 o, .int .i64 s, .int .i64 y], .agg #[.int .u8 d0, .int .u8 d1, .int .u8 d2, .int .u8 d3], .int .u8 l, .int .u8 v] w fun e w' => e = .returned (.bool true) ∧ Below w.heap.size w w' := by
  have ho := hk.o1
  have ho' := hk.o2
  have HK := Lib.hid hk
  clear hk
  have hwb := sel_bd (m := l % o) b0 b1 b2 b3
  obtain ⟨was, hwas⟩ : ∃ was, sel4 d0 d1 d2 d3 (l % o) = was := ⟨_, rfl⟩
  rw [hwas] at hwb
  obtain ⟨hwb1, hwb2⟩ := hwb
  have HS := Lib.hid hwas
  have hpb := put_back (l := l) (v := v) (d0 := d0) (d1 := d1) (d2 := d2) (d3 := d3) ho ho'
  rw [hwas] at hpb
  have HP := Lib.hid hpb
  clear hpb hwas b0 b1 b2 b3
  have heq := eqDataSame
  have HC := Lib.hid (cells_new2 w #[.int .i64 c, .int .i64 h, .int .i64 o, .int .i64 s, .int .i64 y] #[.int .u8 d0, .int .u8 d1, .int .u8 d2, .int .u8 d3] 23 32); have hsz : w.heap.size < ((w.alloc (.cells #[.int .i64 c, .int .i64 h, .int .i64 o, .int .i64 s, .int .i64 y] 23)).alloc (.cells #[.int .u8 d0, .int .u8 d1, .int .u8 d2, .int .u8 d3] 32)).heap.size := (by simp; omega); have hsz1 : w.heap.size + 1 < ((w.alloc (.cells #[.int .i64 c, .int .i64 h, .int .i64 o, .int .i64 s, .int .i64 y] 23)).alloc (.cells #[.int .u8 d0, .int .u8 d1, .int .u8 d2, .int .u8 d3] 32)).heap.size := (by simp); have HB := Lib.hid ((hw.alloc (.cells #[.int .i64 c, .int .i64 h, .int .i64 o, .int .i64 s, .int .i64 y] 23)).alloc (.cells #[.int .u8 d0, .int .u8 d1, .int .u8 d2, .int .u8 d3] 32))
  have HG := Lib.hid (Rel.Grow.refl ((w.alloc (.cells #[.int .i64 c, .int .i64 h, .int .i64 o, .int .i64 s, .int .i64 y] 23)).alloc (.cells #[.int .u8 d0, .int .u8 d1, .int .u8 d2, .int .u8 d3] 32)))
  have hcy := HC.out.1
  have hcz := HC.out.2
  clear hw
  go_enter Tryd.func5, Tryd.ntmps5
  go_wp2_with (first | (go_at_call 9; refine (awake_any _ HB.out).mono ?_; rintro e w1 ⟨rfl, hb⟩; replace HG := Lib.hid (HG.out.trans hb); replace hcy := cells_in HG.out HC.out.1 hsz; replace hcz := cells_in HG.out HC.out.2 hsz1; replace HB := Lib.hid (HB.out.below hb HB.out.sz); clear hb) | (go_at_call 10; refine (right_yes _ _ _ _ _ _ HB.out HK.out).mono ?_; rintro e w1 ⟨rfl, hb⟩; replace HG := Lib.hid (HG.out.trans hb); replace hcy := cells_in HG.out HC.out.1 hsz; replace hcz := cells_in HG.out HC.out.2 hsz1; replace HB := Lib.hid (HB.out.below hb HB.out.sz); clear hb) | (go_at_call 16; refine (Get_is _ _ _ _ _ _ _ _ _ _ HB.out HK.out l hl hl' _ HS.out).mono ?_; rintro e w1 ⟨rfl, hb⟩; replace HG := Lib.hid (HG.out.trans hb); replace hcy := cells_in HG.out HC.out.1 hsz; replace hcz := cells_in HG.out HC.out.2 hsz1; replace HB := Lib.hid (HB.out.below hb HB.out.sz); clear hb) | (go_at_call 18; refine (Put_yes _ _ _ _ _ _ _ _ _ _ HB.out HK.out l hl hl' v hv hv').mono ?_; rintro e w4 ⟨rfl, hb⟩; replace HG := Lib.hid (HG.out.trans hb); replace hcy := cells_in HG.out HC.out.1 hsz; replace hcz := cells_in HG.out HC.out.2 hsz1; replace HB := Lib.hid (HB.out.below hb HB.out.sz); have hs4 := HG.out.size))
  clear hcy hcz
  have HX := Lib.hid (cells_new w4 #[.int .u8 (putW l o 0 v d0), .int .u8 (putW l o 1 v d1), .int .u8 (putW l o 2 v d2), .int .u8 (putW l o 3 v d3)] 32)
  have hsx : w4.heap.size < (w4.alloc (.cells #[.int .u8 (putW l o 0 v d0), .int .u8 (putW l o 1 v d1), .int .u8 (putW l o 2 v d2), .int .u8 (putW l o 3 v d3)] 32)).heap.size := (by simp)
  have HA := Lib.hid (HG.out.trans (show Rel.Grow w4 (w4.alloc (.cells #[.int .u8 (putW l o 0 v d0), .int .u8 (putW l o 1 v d1), .int .u8 (putW l o 2 v d2), .int .u8 (putW l o 3 v d3)] 32)) from (Below.refl _ _).alloc (Nat.le_refl _) _))
  have HBA := Lib.hid (HB.out.alloc (.cells #[.int .u8 (putW l o 0 v d0), .int .u8 (putW l o 1 v d1), .int .u8 (putW l o 2 v d2), .int .u8 (putW l o 3 v d3)] 32))
  generalize w4.alloc (.cells #[.int .u8 (putW l o 0 v d0), .int .u8 (putW l o 1 v d1), .int .u8 (putW l o 2 v d2), .int .u8 (putW l o 3 v d3)] 32) = w5 at *
  refine Rel.wp_region_lex 15 [⟨[(4, none)], none⟩, ⟨[(10, none)], none⟩, ⟨[(2, none)], none⟩, ⟨[(41, some 0), (42, some 1), (43, some 2)], none⟩, ⟨[(3, none)], none⟩, ⟨[(44, some 3), (45, some 4)], none⟩, ⟨[(46, some 5)], none⟩, ⟨[(4, none), (47, some 6)], some (47, false)⟩, ⟨[(10, none), (47, some 6)], some (47, false)⟩, ⟨[(2, none), (47, some 6)], some (47, false)⟩, ⟨[(9, none), (47, some 6)], some (47, false)⟩, ⟨[(48, some 7), (49, some 8), (50, some 9), (51, some 10), (47, some 6)], some (47, false)⟩, ⟨[(5, none), (47, some 6)], some (47, false)⟩, ⟨[(52, some 11), (53, some 12), (47, some 6)], some (47, false)⟩, ⟨[(47, some 6), (54, some 13)], none⟩] Rel.Grow (by kernel_rfl) (by kernel_rfl) (by kernel_rfl) Rel.Grow.refl Rel.Grow.trans (Rel.Grow.drew _) ?_
  simp only [List.append_eq, List.cons_append, List.nil_append, List.take_succ_cons, List.take_zero]
  iterate 15 (first
    | (apply Rel.lex_eq; · (simp only [Rel.Knows, Rel.Guarded, List.nil_append, List.cons_append, List.getD_cons_zero, List.getD_cons_succ]; intro a' w' hG; intros; have hcy := cells_in (HA.out.trans hG) HC.out.1 hsz; have hcz := cells_in (HA.out.trans hG) HC.out.2 hsz1; have hcx := cells_in hG HX.out hsx; first | (go_simp; (try go_ints); first | exact ⟨Rel.Grow.refl _, rfl⟩ | (refine Rel.opOk_enter ?_; first | (go_at_call 16; (with_reducible refine (Get_is _ _ _ _ _ _ _ _ _ _ (HBA.out.below hG HBA.out.sz) HK.out l hl hl' _ (sel_put ho ho')).mono ?_); rintro e w2 ⟨rfl, hb⟩; exact ⟨_, rfl, hb, rfl⟩) | (go_at_call 18; (with_reducible refine (Put_is _ _ _ _ _ _ _ _ _ _ (HBA.out.below hG HBA.out.sz) HK.out l hl hl' _ hwb1 hwb2 _ _ _ _ HP.out.1 HP.out.2.1 HP.out.2.2.1 HP.out.2.2.2).mono ?_); rintro e w2 ⟨rfl, hb⟩; exact ⟨_, rfl, hb, rfl⟩))) | (refine ⟨_, by assumption, (fun _ => ?_), (fun hh => absurd rfl hh)⟩; go_simp; (try go_ints); first | exact ⟨Rel.Grow.refl _, rfl⟩ | (refine Rel.opOk_enter ?_; first | (go_at_call 16; (with_reducible refine (Get_is _ _ _ _ _ _ _ _ _ _ (HBA.out.below hG HBA.out.sz) HK.out l hl hl' _ (sel_put ho ho')).mono ?_); rintro e w2 ⟨rfl, hb⟩; exact ⟨_, rfl, hb, rfl⟩) | (go_at_call 18; (with_reducible refine (Put_is _ _ _ _ _ _ _ _ _ _ (HBA.out.below hG HBA.out.sz) HK.out l hl hl' _ hwb1 hwb2 _ _ _ _ HP.out.1 HP.out.2.1 HP.out.2.2.1 HP.out.2.2.2).mono ?_); rintro e w2 ⟨rfl, hb⟩; exact ⟨_, rfl, hb, rfl⟩))) | (refine ⟨_, by assumption, ?_, (fun _ => rfl)⟩; intro hh; cases hh; done))))
  refine Rel.lex_nil ?_
  intro w6 hG6
  simp only [List.nil_append, List.cons_append]
  repeat (first | with_reducible refine Rel.forAllV_eq ?_ | (with_reducible refine Rel.forAllV_rel ?_; intro _ _))
  with_reducible refine Rel.forAllV_nil ?_
  simp only [List.append_eq, List.cons_append, List.nil_append, Rel.forAllV, Rel.putAll, List.take_succ_cons, List.take_zero, List.drop_succ_cons, List.drop_zero, Act.put, List.setIfInBounds_toArray, List.set_cons_succ, List.set_cons_zero]
  have HG6 := Lib.hid hG6
  clear hG6
  go_wp2
  go_loopw [11, 12] (fun n _ wr => ∃ k : Nat, k ≤ 256 ∧ n = .int .i64 k ∧ Rel.Grow w6 wr) (fun n _ _ => 256 - (intOf n).toNat)
  case atStart => exact ⟨0, by omega, rfl, Rel.Grow.refl _⟩
  case round =>
    obtain ⟨k, hk, rfl, hgr⟩ := hrel
    have HR := Lib.hid hgr
    clear hgr
    by_cases hlt : k < 256
    · have hk0 : (0 : Int) ≤ k := by omega
      have hk1 : (k : Int) ≤ 255 := by omega
      by_cases he : (k : Int) / o = l / o
      · by_cases hkl : (k : Int) = l
        · have hbo : ((k : Int) != l) = false := by simp [hkl]
          have HE := Lib.hid he
          clear he hkl
          go_wp2
          refine Rel.wp_region_lex 23 [⟨[(4, none)], none⟩, ⟨[(12, none)], none⟩, ⟨[(62, some 0), (63, some 1)], none⟩, ⟨[(4, none)], none⟩, ⟨[(2, none)], none⟩, ⟨[(65, some 3), (66, some 4)], none⟩, ⟨[(64, some 2), (67, some 5)], none⟩, ⟨[(68, some 6)], none⟩, ⟨[(12, none), (69, some 7)], some (69, true)⟩, ⟨[(2, none), (69, some 7)], some (69, true)⟩, ⟨[(70, some 8), (71, some 9), (69, some 7)], some (69, true)⟩, ⟨[(69, some 7), (72, some 10)], none⟩, ⟨[(73, some 11)], none⟩, ⟨[(4, none), (74, some 12)], some (74, true)⟩, ⟨[(10, none), (74, some 12)], some (74, true)⟩, ⟨[(12, none), (74, some 12)], some (74, true)⟩, ⟨[(75, some 13), (76, some 14), (77, some 15), (74, some 12)], some (74, true)⟩, ⟨[(4, none), (74, some 12)], some (74, true)⟩, ⟨[(5, none), (74, some 12)], some (74, true)⟩, ⟨[(12, none), (74, some 12)], some (74, true)⟩, ⟨[(79, some 17), (80, some 18), (81, some 19), (74, some 12)], some (74, true)⟩, ⟨[(78, some 16), (82, some 20), (74, some 12)], some (74, true)⟩, ⟨[(74, some 12), (83, some 21)], none⟩] Rel.Grow (by kernel_rfl) (by kernel_rfl) (by kernel_rfl) Rel.Grow.refl Rel.Grow.trans (Rel.Grow.drew _) ?_
          simp only [List.append_eq, List.cons_append, List.nil_append, List.take_succ_cons, List.take_zero]
          iterate 23 (first
            | (apply Rel.lex_eq; · (simp only [Rel.Knows, Rel.Guarded, List.nil_append, List.cons_append, List.getD_cons_zero, List.getD_cons_succ]; intro a' w' hG; intros; have hcy := cells_in (HA.out.trans (HG6.out.trans (HR.out.trans hG))) HC.out.1 hsz; have hcz := cells_in (HA.out.trans (HG6.out.trans (HR.out.trans hG))) HC.out.2 hsz1; have hcx := cells_in (HG6.out.trans (HR.out.trans hG)) HX.out hsx; first | (go_simp; (try go_ints); first | exact ⟨Rel.Grow.refl _, rfl⟩ | (refine Rel.opOk_enter ?_; first | (go_at_call 14; (with_reducible refine (Line_is _ _ _ _ _ _ ((HBA.out.below HG6.out HBA.out.sz).below (HR.out.trans hG) (HBA.out.below HG6.out HBA.out.sz).sz) HK.out _ hk0 hk1 _ HE.out).mono ?_); rintro e w2 ⟨rfl, hb⟩; exact ⟨_, rfl, hb, rfl⟩) | (go_at_call 14; (with_reducible refine (Line_yes _ _ _ _ _ _ ((HBA.out.below HG6.out HBA.out.sz).below (HR.out.trans hG) (HBA.out.below HG6.out HBA.out.sz).sz) HK.out l hl hl').mono ?_); rintro e w2 ⟨rfl, hb⟩; exact ⟨_, rfl, hb, rfl⟩))) | (refine ⟨_, by assumption, (fun _ => ?_), (fun hh => absurd rfl hh)⟩; go_simp; (try go_ints); first | exact ⟨Rel.Grow.refl _, rfl⟩ | (refine Rel.opOk_enter ?_; first | (go_at_call 14; (with_reducible refine (Line_is _ _ _ _ _ _ ((HBA.out.below HG6.out HBA.out.sz).below (HR.out.trans hG) (HBA.out.below HG6.out HBA.out.sz).sz) HK.out _ hk0 hk1 _ HE.out).mono ?_); rintro e w2 ⟨rfl, hb⟩; exact ⟨_, rfl, hb, rfl⟩) | (go_at_call 14; (with_reducible refine (Line_yes _ _ _ _ _ _ ((HBA.out.below HG6.out HBA.out.sz).below (HR.out.trans hG) (HBA.out.below HG6.out HBA.out.sz).sz) HK.out l hl hl').mono ?_); rintro e w2 ⟨rfl, hb⟩; exact ⟨_, rfl, hb, rfl⟩))) | (refine ⟨_, by assumption, ?_, (fun _ => rfl)⟩; intro hh; cases hh; done))))
          refine Rel.lex_nil ?_
          intro w7 hG7
          simp only [List.nil_append, List.cons_append]
          repeat (first | with_reducible refine Rel.forAllV_eq ?_ | (with_reducible refine Rel.forAllV_rel ?_; intro _ _))
          with_reducible refine Rel.forAllV_nil ?_
          simp only [List.append_eq, List.cons_append, List.nil_append, Rel.forAllV, Rel.putAll, List.take_succ_cons, List.take_zero, List.drop_succ_cons, List.drop_zero, Act.put, List.setIfInBounds_toArray, List.set_cons_succ, List.set_cons_zero]
          go_wp2
          go_roundw
          case rel => exact ⟨k + 1, by omega, by go_num, HR.out.trans hG7⟩
          case measure => simp [intOf]; omega
        · have hbo : ((k : Int) != l) = true := by simpa using hkl
          have hso := sel_other (v := v) (d0 := d0) (d1 := d1) (d2 := d2) (d3 := d3) ho ho' he hkl
          have HSO := Lib.hid hso
          have HE := Lib.hid he
          clear he hkl hso
          go_wp2
          refine Rel.wp_region_lex 23 [⟨[(4, none)], none⟩, ⟨[(12, none)], none⟩, ⟨[(62, some 0), (63, some 1)], none⟩, ⟨[(4, none)], none⟩, ⟨[(2, none)], none⟩, ⟨[(65, some 3), (66, some 4)], none⟩, ⟨[(64, some 2), (67, some 5)], none⟩, ⟨[(68, some 6)], none⟩, ⟨[(12, none), (69, some 7)], some (69, true)⟩, ⟨[(2, none), (69, some 7)], some (69, true)⟩, ⟨[(70, some 8), (71, some 9), (69, some 7)], some (69, true)⟩, ⟨[(69, some 7), (72, some 10)], none⟩, ⟨[(73, some 11)], none⟩, ⟨[(4, none), (74, some 12)], some (74, true)⟩, ⟨[(10, none), (74, some 12)], some (74, true)⟩, ⟨[(12, none), (74, some 12)], some (74, true)⟩, ⟨[(75, some 13), (76, some 14), (77, some 15), (74, some 12)], some (74, true)⟩, ⟨[(4, none), (74, some 12)], some (74, true)⟩, ⟨[(5, none), (74, some 12)], some (74, true)⟩, ⟨[(12, none), (74, some 12)], some (74, true)⟩, ⟨[(79, some 17), (80, some 18), (81, some 19), (74, some 12)], some (74, true)⟩, ⟨[(78, some 16), (82, some 20), (74, some 12)], some (74, true)⟩, ⟨[(74, some 12), (83, some 21)], none⟩] Rel.Grow (by kernel_rfl) (by kernel_rfl) (by kernel_rfl) Rel.Grow.refl Rel.Grow.trans (Rel.Grow.drew _) ?_
          simp only [List.append_eq, List.cons_append, List.nil_append, List.take_succ_cons, List.take_zero]
          iterate 23 (first
            | (apply Rel.lex_eq; · (simp only [Rel.Knows, Rel.Guarded, List.nil_append, List.cons_append, List.getD_cons_zero, List.getD_cons_succ]; intro a' w' hG; intros; have hcy := cells_in (HA.out.trans (HG6.out.trans (HR.out.trans hG))) HC.out.1 hsz; have hcz := cells_in (HA.out.trans (HG6.out.trans (HR.out.trans hG))) HC.out.2 hsz1; have hcx := cells_in (HG6.out.trans (HR.out.trans hG)) HX.out hsx; first | (go_simp; (try go_ints); first | exact ⟨Rel.Grow.refl _, rfl⟩ | (refine Rel.opOk_enter ?_; first | (go_at_call 14; (with_reducible refine (Line_is _ _ _ _ _ _ ((HBA.out.below HG6.out HBA.out.sz).below (HR.out.trans hG) (HBA.out.below HG6.out HBA.out.sz).sz) HK.out _ hk0 hk1 _ HE.out).mono ?_); rintro e w2 ⟨rfl, hb⟩; exact ⟨_, rfl, hb, rfl⟩) | (go_at_call 14; (with_reducible refine (Line_yes _ _ _ _ _ _ ((HBA.out.below HG6.out HBA.out.sz).below (HR.out.trans hG) (HBA.out.below HG6.out HBA.out.sz).sz) HK.out l hl hl').mono ?_); rintro e w2 ⟨rfl, hb⟩; exact ⟨_, rfl, hb, rfl⟩) | (go_at_call 16; (with_reducible refine (Get_is _ _ _ _ _ _ _ _ _ _ ((HBA.out.below HG6.out HBA.out.sz).below (HR.out.trans hG) (HBA.out.below HG6.out HBA.out.sz).sz) HK.out _ hk0 hk1 _ HSO.out).mono ?_); rintro e w2 ⟨rfl, hb⟩; exact ⟨_, rfl, hb, rfl⟩) | (go_at_call 16; (with_reducible refine (Get_yes _ _ _ _ _ _ _ _ _ _ ((HBA.out.below HG6.out HBA.out.sz).below (HR.out.trans hG) (HBA.out.below HG6.out HBA.out.sz).sz) HK.out _ hk0 hk1).mono ?_); rintro e w2 ⟨rfl, hb⟩; exact ⟨_, rfl, hb, rfl⟩))) | (refine ⟨_, by assumption, (fun _ => ?_), (fun hh => absurd rfl hh)⟩; go_simp; (try go_ints); first | exact ⟨Rel.Grow.refl _, rfl⟩ | (refine Rel.opOk_enter ?_; first | (go_at_call 14; (with_reducible refine (Line_is _ _ _ _ _ _ ((HBA.out.below HG6.out HBA.out.sz).below (HR.out.trans hG) (HBA.out.below HG6.out HBA.out.sz).sz) HK.out _ hk0 hk1 _ HE.out).mono ?_); rintro e w2 ⟨rfl, hb⟩; exact ⟨_, rfl, hb, rfl⟩) | (go_at_call 14; (with_reducible refine (Line_yes _ _ _ _ _ _ ((HBA.out.below HG6.out HBA.out.sz).below (HR.out.trans hG) (HBA.out.below HG6.out HBA.out.sz).sz) HK.out l hl hl').mono ?_); rintro e w2 ⟨rfl, hb⟩; exact ⟨_, rfl, hb, rfl⟩) | (go_at_call 16; (with_reducible refine (Get_is _ _ _ _ _ _ _ _ _ _ ((HBA.out.below HG6.out HBA.out.sz).below (HR.out.trans hG) (HBA.out.below HG6.out HBA.out.sz).sz) HK.out _ hk0 hk1 _ HSO.out).mono ?_); rintro e w2 ⟨rfl, hb⟩; exact ⟨_, rfl, hb, rfl⟩) | (go_at_call 16; (with_reducible refine (Get_yes _ _ _ _ _ _ _ _ _ _ ((HBA.out.below HG6.out HBA.out.sz).below (HR.out.trans hG) (HBA.out.below HG6.out HBA.out.sz).sz) HK.out _ hk0 hk1).mono ?_); rintro e w2 ⟨rfl, hb⟩; exact ⟨_, rfl, hb, rfl⟩))) | (refine ⟨_, by assumption, ?_, (fun _ => rfl)⟩; intro hh; cases hh; done))))
          refine Rel.lex_nil ?_
          intro w7 hG7
          simp only [List.nil_append, List.cons_append]
          repeat (first | with_reducible refine Rel.forAllV_eq ?_ | (with_reducible refine Rel.forAllV_rel ?_; intro _ _))
          with_reducible refine Rel.forAllV_nil ?_
          simp only [List.append_eq, List.cons_append, List.nil_append, Rel.forAllV, Rel.putAll, List.take_succ_cons, List.take_zero, List.drop_succ_cons, List.drop_zero, Act.put, List.setIfInBounds_toArray, List.set_cons_succ, List.set_cons_zero]
          go_wp2
          go_roundw
          case rel => exact ⟨k + 1, by omega, by go_num, HR.out.trans hG7⟩
          case measure => simp [intOf]; omega
      · have hbe : ((k : Int) / o == l / o) = false := by simpa using he
        clear he
        go_wp2
        refine Rel.wp_region_lex 23 [⟨[(4, none)], none⟩, ⟨[(12, none)], none⟩, ⟨[(62, some 0), (63, some 1)], none⟩, ⟨[(4, none)], none⟩, ⟨[(2, none)], none⟩, ⟨[(65, some 3), (66, some 4)], none⟩, ⟨[(64, some 2), (67, some 5)], none⟩, ⟨[(68, some 6)], none⟩, ⟨[(12, none), (69, some 7)], some (69, true)⟩, ⟨[(2, none), (69, some 7)], some (69, true)⟩, ⟨[(70, some 8), (71, some 9), (69, some 7)], some (69, true)⟩, ⟨[(69, some 7), (72, some 10)], none⟩, ⟨[(73, some 11)], none⟩, ⟨[(4, none), (74, some 12)], some (74, true)⟩, ⟨[(10, none), (74, some 12)], some (74, true)⟩, ⟨[(12, none), (74, some 12)], some (74, true)⟩, ⟨[(75, some 13), (76, some 14), (77, some 15), (74, some 12)], some (74, true)⟩, ⟨[(4, none), (74, some 12)], some (74, true)⟩, ⟨[(5, none), (74, some 12)], some (74, true)⟩, ⟨[(12, none), (74, some 12)], some (74, true)⟩, ⟨[(79, some 17), (80, some 18), (81, some 19), (74, some 12)], some (74, true)⟩, ⟨[(78, some 16), (82, some 20), (74, some 12)], some (74, true)⟩, ⟨[(74, some 12), (83, some 21)], none⟩] Rel.Grow (by kernel_rfl) (by kernel_rfl) (by kernel_rfl) Rel.Grow.refl Rel.Grow.trans (Rel.Grow.drew _) ?_
        simp only [List.append_eq, List.cons_append, List.nil_append, List.take_succ_cons, List.take_zero]
        iterate 23 (first
          | (apply Rel.lex_eq; · (simp only [Rel.Knows, Rel.Guarded, List.nil_append, List.cons_append, List.getD_cons_zero, List.getD_cons_succ]; intro a' w' hG; intros; have hcy := cells_in (HA.out.trans (HG6.out.trans (HR.out.trans hG))) HC.out.1 hsz; have hcz := cells_in (HA.out.trans (HG6.out.trans (HR.out.trans hG))) HC.out.2 hsz1; have hcx := cells_in (HG6.out.trans (HR.out.trans hG)) HX.out hsx; first | (go_simp; (try go_ints); first | exact ⟨Rel.Grow.refl _, rfl⟩ | (refine Rel.opOk_enter ?_; first | (go_at_call 14; (with_reducible refine (Line_yes _ _ _ _ _ _ ((HBA.out.below HG6.out HBA.out.sz).below (HR.out.trans hG) (HBA.out.below HG6.out HBA.out.sz).sz) HK.out _ hk0 hk1).mono ?_); rintro e w2 ⟨rfl, hb⟩; exact ⟨_, rfl, hb, rfl⟩) | (go_at_call 14; (with_reducible refine (Line_yes _ _ _ _ _ _ ((HBA.out.below HG6.out HBA.out.sz).below (HR.out.trans hG) (HBA.out.below HG6.out HBA.out.sz).sz) HK.out l hl hl').mono ?_); rintro e w2 ⟨rfl, hb⟩; exact ⟨_, rfl, hb, rfl⟩))) | (refine ⟨_, by assumption, (fun _ => ?_), (fun hh => absurd rfl hh)⟩; go_simp; (try go_ints); first | exact ⟨Rel.Grow.refl _, rfl⟩ | (refine Rel.opOk_enter ?_; first | (go_at_call 14; (with_reducible refine (Line_yes _ _ _ _ _ _ ((HBA.out.below HG6.out HBA.out.sz).below (HR.out.trans hG) (HBA.out.below HG6.out HBA.out.sz).sz) HK.out _ hk0 hk1).mono ?_); rintro e w2 ⟨rfl, hb⟩; exact ⟨_, rfl, hb, rfl⟩) | (go_at_call 14; (with_reducible refine (Line_yes _ _ _ _ _ _ ((HBA.out.below HG6.out HBA.out.sz).below (HR.out.trans hG) (HBA.out.below HG6.out HBA.out.sz).sz) HK.out l hl hl').mono ?_); rintro e w2 ⟨rfl, hb⟩; exact ⟨_, rfl, hb, rfl⟩))) | (refine ⟨_, by assumption, ?_, (fun _ => rfl)⟩; intro hh; cases hh; done))))
        refine Rel.lex_nil ?_
        intro w7 hG7
        simp only [List.nil_append, List.cons_append]
        repeat (first | with_reducible refine Rel.forAllV_eq ?_ | (with_reducible refine Rel.forAllV_rel ?_; intro _ _))
        with_reducible refine Rel.forAllV_nil ?_
        simp only [List.append_eq, List.cons_append, List.nil_append, Rel.forAllV, Rel.putAll, List.take_succ_cons, List.take_zero, List.drop_succ_cons, List.drop_zero, Act.put, List.setIfInBounds_toArray, List.set_cons_succ, List.set_cons_zero]
        go_wp2
        go_roundw
        case rel => exact ⟨k + 1, by omega, by go_num, HR.out.trans hG7⟩
        case measure => simp [intOf]; omega
    · obtain rfl : k = 256 := by omega
      go_wp2
      go_ret
      exact ⟨rfl, (((Below.refl w.heap.size w).alloc (Nat.le_refl _) _).alloc (by simp) _).trans ((HA.out.trans (HG6.out.trans HR.out)).below (by simp; omega))⟩
theorem GeoKeeps_any (c h o s y d0 d1 d2 d3 : Int) (w : World) (hw : Bnd w) (l : Int) (hl : 0 ≤ l) (hl' : l ≤ 255) (v : Int) (hv : 0 ≤ v) (hv' : v ≤ 255) (b0 : 0 ≤ d0 ∧ d0 ≤ 255) (b1 : 0 ≤ d1 ∧ d1 ≤ 255) (b2 : 0 ≤ d2 ∧ d2 ≤ 255) (b3 : 0 ≤ d3 ∧ d3 ≤ 255) :
    Calls Tryd.prog 5 #[.agg #[.int .i64 c, .int .i64 h, .int .i64 o, .int .i64 s, .int .i64 y], .agg #[.int .u8 d0, .int .u8 d1, .int .u8 d2, .int .u8 d3], .int .u8 l, .int .u8 v] w fun e w' => e = .returned (.bool true) ∧ Below w.heap.size w w' := by
  by_cases hk : OkG c h o s y
  · exact GeoKeeps_yes c h o s y d0 d1 d2 d3 w hw hk l hl hl' v hv hv' b0 b1 b2 b3
  · exact GeoKeeps_no c h o s y d0 d1 d2 d3 w hw hk l hl hl' v hv hv'
end Go.Proofs.YtolkajcgddiceaaDoor
