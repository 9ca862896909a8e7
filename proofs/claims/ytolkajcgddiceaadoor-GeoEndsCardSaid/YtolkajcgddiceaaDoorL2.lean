/- The statement GeoWords, walked. -/
import Derived.Test.YtolkajcgddiceaaDoorL1
set_option linter.unusedSimpArgs false
set_option linter.unusedVariables false
namespace Go.Proofs.YtolkajcgddiceaaDoor
open Go.RowKit

theorem eqData (a0 a1 a2 a3 b0 b1 b2 b3 : Int) (w : World) : (Op.equalIn 10000 32 (.agg #[.int .u8 a0, .int .u8 a1, .int .u8 a2, .int .u8 a3]) (.agg #[.int .u8 b0, .int .u8 b1, .int .u8 b2, .int .u8 b3])).run Tryd.prog w = .ok (a0 == b0 && a1 == b1 && a2 == b2 && a3 == b3) w := by
  have u := Tryd.underlying5
  have a := Tryd.isAgg5
  have z := Tryd.sizeOf5
  rw [show (10000 : Nat) = 9999 + 1 from rfl, Op.equalIn]
  simp only [Sem.run_bind, run_underlying Tryd.underlying32, Result.andThen_ok]
  simp only [Std.Legacy.Range.forIn_eq_forIn_range', Std.Legacy.Range.size, Nat.sub_zero, Nat.add_sub_cancel, Nat.div_one, List.range'_succ, List.range'_zero, List.forIn_cons, List.forIn_nil]
  go_simp
  by_cases h0 : a0 = b0 <;> by_cases h1 : a1 = b1 <;> by_cases h2 : a2 = b2 <;> by_cases h3 : a3 = b3 <;> simp [h0, h1, h2, h3]
theorem eqDataSame (a0 a1 a2 a3 : Int) (w : World) : (Op.equalIn 10000 32 (.agg #[.int .u8 a0, .int .u8 a1, .int .u8 a2, .int .u8 a3]) (.agg #[.int .u8 a0, .int .u8 a1, .int .u8 a2, .int .u8 a3])).run Tryd.prog w = .ok true w := by
  rw [eqData]
  simp
theorem cells_new2 (w : World) (cs ds : Array Value) (t u : TypeId) : (∀ j : Nat, ((w.alloc (.cells cs t)).alloc (.cells ds u)).cell? ⟨w.heap.size, j, none⟩ = cs[j]?) ∧ (∀ j : Nat, ((w.alloc (.cells cs t)).alloc (.cells ds u)).cell? ⟨w.heap.size + 1, j, none⟩ = ds[j]?) := by
  refine ⟨fun j => ?_, fun j => ?_⟩
  · rw [World.cell?_of_block (a := ⟨w.heap.size, j, none⟩) (Below.heap_alloc _ _ _ (by simp))]
    exact cells_new w cs t j
  · have := cells_new (w.alloc (.cells cs t)) ds u j
    rwa [World.size_alloc] at this

set_option maxRecDepth 100000 in
set_option maxHeartbeats 4000000 in
theorem GeoWords_yes (c h o s y d0 d1 d2 d3 : Int) (w : World) (hw : Bnd w) (hk : OkG c h o s y) (l : Int) (hl : 0 ≤ l) (hl' : l ≤ 255) (v : Int) (hv : 0 ≤ v) (hv' : v ≤ 255) :
    Calls Tryd.prog 4 #[.agg #[.int .i64 c, .int .i64 h, .int .i64 o, .int .i64 s, .int .i64 y], .agg #[.int .u8 d0, .int .u8 d1, .int .u8 d2, .int .u8 d3], .int .u8 l, .int .u8 v] w fun e w' => e = .returned (.bool true) ∧ Below w.heap.size w w' := by
  have HK := Lib.hid hk
  clear hk
  have heq := eqDataSame
  have HC := Lib.hid (cells_new2 w #[.int .i64 c, .int .i64 h, .int .i64 o, .int .i64 s, .int .i64 y] #[.int .u8 d0, .int .u8 d1, .int .u8 d2, .int .u8 d3] 23 32); have hsz : w.heap.size < ((w.alloc (.cells #[.int .i64 c, .int .i64 h, .int .i64 o, .int .i64 s, .int .i64 y] 23)).alloc (.cells #[.int .u8 d0, .int .u8 d1, .int .u8 d2, .int .u8 d3] 32)).heap.size := (by simp; omega); have hsz1 : w.heap.size + 1 < ((w.alloc (.cells #[.int .i64 c, .int .i64 h, .int .i64 o, .int .i64 s, .int .i64 y] 23)).alloc (.cells #[.int .u8 d0, .int .u8 d1, .int .u8 d2, .int .u8 d3] 32)).heap.size := (by simp); have HB := Lib.hid ((hw.alloc (.cells #[.int .i64 c, .int .i64 h, .int .i64 o, .int .i64 s, .int .i64 y] 23)).alloc (.cells #[.int .u8 d0, .int .u8 d1, .int .u8 d2, .int .u8 d3] 32))
  clear hw
  go_enter Tryd.func4, Tryd.ntmps4
  go_wp2_with fail
  refine Rel.wp_region_lex 26 [⟨[(4, none)], none⟩, ⟨[(5, none)], none⟩, ⟨[(2, none)], none⟩, ⟨[(9, some 0), (10, some 1), (11, some 2)], none⟩, ⟨[(4, none)], none⟩, ⟨[(5, none)], none⟩, ⟨[(2, none)], none⟩, ⟨[(13, some 4), (14, some 5), (15, some 6)], none⟩, ⟨[(12, some 3), (16, some 7)], none⟩, ⟨[(17, some 8)], none⟩, ⟨[(4, none), (18, some 9)], some (18, true)⟩, ⟨[(5, none), (18, some 9)], some (18, true)⟩, ⟨[(2, none), (18, some 9)], some (18, true)⟩, ⟨[(3, none), (18, some 9)], some (18, true)⟩, ⟨[(19, some 10), (20, some 11), (21, some 12), (22, some 13), (18, some 9)], some (18, true)⟩, ⟨[(4, none), (18, some 9)], some (18, true)⟩, ⟨[(5, none), (18, some 9)], some (18, true)⟩, ⟨[(2, none), (18, some 9)], some (18, true)⟩, ⟨[(3, none), (18, some 9)], some (18, true)⟩, ⟨[(24, some 15), (25, some 16), (26, some 17), (27, some 18), (18, some 9)], some (18, true)⟩, ⟨[(23, some 14), (28, some 19), (18, some 9)], some (18, true)⟩, ⟨[(18, some 9), (29, some 20)], none⟩, ⟨[(30, some 21)], none⟩, ⟨[(31, some 22)], some (31, true)⟩, ⟨[(31, some 22), (32, some 23)], none⟩, ⟨[(33, some 24)], none⟩] Rel.Grow (by kernel_rfl) (by kernel_rfl) (by kernel_rfl) Rel.Grow.refl Rel.Grow.trans (Rel.Grow.drew _) ?_
  simp only [List.append_eq, List.cons_append, List.nil_append, List.take_succ_cons, List.take_zero]
  iterate 26 (first
    | (apply Rel.lex_eq; · (simp only [Rel.Knows, Rel.Guarded, List.nil_append, List.cons_append, List.getD_cons_zero, List.getD_cons_succ]; intro a' w' hG; intros; have hcy := cells_in hG HC.out.1 hsz; have hcz := cells_in hG HC.out.2 hsz1; first | (go_simp; (try go_ints); first | exact ⟨Rel.Grow.refl _, rfl⟩ | (refine Rel.opOk_enter ?_; first | (go_at_call 16; (with_reducible refine (Get_yes _ _ _ _ _ _ _ _ _ _ (HB.out.below hG HB.out.sz) HK.out l hl hl').mono ?_); rintro e w2 ⟨rfl, hb⟩; exact ⟨_, rfl, hb, rfl⟩) | (go_at_call 17; (with_reducible refine (rGet_yes _ _ _ _ _ _ _ _ _ _ HK.out l hl hl').mono ?_); rintro e w2 ⟨rfl, hb⟩; exact ⟨_, rfl, hb, rfl⟩) | (go_at_call 18; (with_reducible refine (Put_yes _ _ _ _ _ _ _ _ _ _ (HB.out.below hG HB.out.sz) HK.out l hl hl' v hv hv').mono ?_); rintro e w2 ⟨rfl, hb⟩; exact ⟨_, rfl, hb, rfl⟩) | (go_at_call 19; (with_reducible refine (rPut_yes _ _ _ _ _ _ _ _ _ _ HK.out l hl hl' v hv hv').mono ?_); rintro e w2 ⟨rfl, hb⟩; exact ⟨_, rfl, hb, rfl⟩) | (go_at_call 9; (with_reducible refine (awake_any _ (HB.out.below hG HB.out.sz)).mono ?_); rintro e w2 ⟨rfl, hb⟩; exact ⟨_, rfl, hb, rfl⟩))) | (refine ⟨_, by assumption, (fun _ => ?_), (fun hh => absurd rfl hh)⟩; go_simp; (try go_ints); first | exact ⟨Rel.Grow.refl _, rfl⟩ | (refine Rel.opOk_enter ?_; first | (go_at_call 16; (with_reducible refine (Get_yes _ _ _ _ _ _ _ _ _ _ (HB.out.below hG HB.out.sz) HK.out l hl hl').mono ?_); rintro e w2 ⟨rfl, hb⟩; exact ⟨_, rfl, hb, rfl⟩) | (go_at_call 17; (with_reducible refine (rGet_yes _ _ _ _ _ _ _ _ _ _ HK.out l hl hl').mono ?_); rintro e w2 ⟨rfl, hb⟩; exact ⟨_, rfl, hb, rfl⟩) | (go_at_call 18; (with_reducible refine (Put_yes _ _ _ _ _ _ _ _ _ _ (HB.out.below hG HB.out.sz) HK.out l hl hl' v hv hv').mono ?_); rintro e w2 ⟨rfl, hb⟩; exact ⟨_, rfl, hb, rfl⟩) | (go_at_call 19; (with_reducible refine (rPut_yes _ _ _ _ _ _ _ _ _ _ HK.out l hl hl' v hv hv').mono ?_); rintro e w2 ⟨rfl, hb⟩; exact ⟨_, rfl, hb, rfl⟩) | (go_at_call 9; (with_reducible refine (awake_any _ (HB.out.below hG HB.out.sz)).mono ?_); rintro e w2 ⟨rfl, hb⟩; exact ⟨_, rfl, hb, rfl⟩))) | (refine ⟨_, by assumption, ?_, (fun _ => rfl)⟩; intro hh; cases hh; done))))
  refine Rel.lex_nil ?_
  intro w2 hG
  simp only [List.nil_append, List.cons_append]
  repeat (first | with_reducible refine Rel.forAllV_eq ?_ | (with_reducible refine Rel.forAllV_rel ?_; intro _ _))
  with_reducible refine Rel.forAllV_nil ?_
  simp only [List.append_eq, List.cons_append, List.nil_append, Rel.forAllV, Rel.putAll, List.take_succ_cons, List.take_zero, List.drop_succ_cons, List.drop_zero, Act.put, List.setIfInBounds_toArray, List.set_cons_succ, List.set_cons_zero]
  go_wp2
  go_ret
  exact ⟨rfl, (((Below.refl w.heap.size w).alloc (Nat.le_refl _) _).alloc (by simp) _).trans (hG.below (by simp; omega))⟩

set_option maxRecDepth 100000 in
set_option maxHeartbeats 4000000 in
theorem GeoWords_no (c h o s y d0 d1 d2 d3 : Int) (w : World) (hw : Bnd w) (hk : ¬ OkG c h o s y) (l : Int) (hl : 0 ≤ l) (hl' : l ≤ 255) (v : Int) (hv : 0 ≤ v) (hv' : v ≤ 255) :
    Calls Tryd.prog 4 #[.agg #[.int .i64 c, .int .i64 h, .int .i64 o, .int .i64 s, .int .i64 y], .agg #[.int .u8 d0, .int .u8 d1, .int .u8 d2, .int .u8 d3], .int .u8 l, .int .u8 v] w fun e w' => e = .returned (.bool true) ∧ Below w.heap.size w w' := by
  have HK := Lib.hid hk
  clear hk
  have heq := eqDataSame
  have HC := Lib.hid (cells_new2 w #[.int .i64 c, .int .i64 h, .int .i64 o, .int .i64 s, .int .i64 y] #[.int .u8 d0, .int .u8 d1, .int .u8 d2, .int .u8 d3] 23 32); have hsz : w.heap.size < ((w.alloc (.cells #[.int .i64 c, .int .i64 h, .int .i64 o, .int .i64 s, .int .i64 y] 23)).alloc (.cells #[.int .u8 d0, .int .u8 d1, .int .u8 d2, .int .u8 d3] 32)).heap.size := (by simp; omega); have hsz1 : w.heap.size + 1 < ((w.alloc (.cells #[.int .i64 c, .int .i64 h, .int .i64 o, .int .i64 s, .int .i64 y] 23)).alloc (.cells #[.int .u8 d0, .int .u8 d1, .int .u8 d2, .int .u8 d3] 32)).heap.size := (by simp); have HB := Lib.hid ((hw.alloc (.cells #[.int .i64 c, .int .i64 h, .int .i64 o, .int .i64 s, .int .i64 y] 23)).alloc (.cells #[.int .u8 d0, .int .u8 d1, .int .u8 d2, .int .u8 d3] 32))
  clear hw
  go_enter Tryd.func4, Tryd.ntmps4
  go_wp2_with fail
  refine Rel.wp_region_lex 26 [⟨[(4, none)], none⟩, ⟨[(5, none)], none⟩, ⟨[(2, none)], none⟩, ⟨[(9, some 0), (10, some 1), (11, some 2)], none⟩, ⟨[(4, none)], none⟩, ⟨[(5, none)], none⟩, ⟨[(2, none)], none⟩, ⟨[(13, some 4), (14, some 5), (15, some 6)], none⟩, ⟨[(12, some 3), (16, some 7)], none⟩, ⟨[(17, some 8)], none⟩, ⟨[(4, none), (18, some 9)], some (18, true)⟩, ⟨[(5, none), (18, some 9)], some (18, true)⟩, ⟨[(2, none), (18, some 9)], some (18, true)⟩, ⟨[(3, none), (18, some 9)], some (18, true)⟩, ⟨[(19, some 10), (20, some 11), (21, some 12), (22, some 13), (18, some 9)], some (18, true)⟩, ⟨[(4, none), (18, some 9)], some (18, true)⟩, ⟨[(5, none), (18, some 9)], some (18, true)⟩, ⟨[(2, none), (18, some 9)], some (18, true)⟩, ⟨[(3, none), (18, some 9)], some (18, true)⟩, ⟨[(24, some 15), (25, some 16), (26, some 17), (27, some 18), (18, some 9)], some (18, true)⟩, ⟨[(23, some 14), (28, some 19), (18, some 9)], some (18, true)⟩, ⟨[(18, some 9), (29, some 20)], none⟩, ⟨[(30, some 21)], none⟩, ⟨[(31, some 22)], some (31, true)⟩, ⟨[(31, some 22), (32, some 23)], none⟩, ⟨[(33, some 24)], none⟩] Rel.Grow (by kernel_rfl) (by kernel_rfl) (by kernel_rfl) Rel.Grow.refl Rel.Grow.trans (Rel.Grow.drew _) ?_
  simp only [List.append_eq, List.cons_append, List.nil_append, List.take_succ_cons, List.take_zero]
  iterate 26 (first
    | (apply Rel.lex_eq; · (simp only [Rel.Knows, Rel.Guarded, List.nil_append, List.cons_append, List.getD_cons_zero, List.getD_cons_succ]; intro a' w' hG; intros; have hcy := cells_in hG HC.out.1 hsz; have hcz := cells_in hG HC.out.2 hsz1; first | (go_simp; (try go_ints); first | exact ⟨Rel.Grow.refl _, rfl⟩ | (refine Rel.opOk_enter ?_; first | (go_at_call 16; (with_reducible refine (Get_no _ _ _ _ _ _ _ _ _ _ (HB.out.below hG HB.out.sz) HK.out l hl hl').mono ?_); rintro e w2 ⟨rfl, hb⟩; exact ⟨_, rfl, hb, rfl⟩) | (go_at_call 17; (with_reducible refine (rGet_no _ _ _ _ _ _ _ _ _ _ HK.out l hl hl').mono ?_); rintro e w2 ⟨rfl, hb⟩; exact ⟨_, rfl, hb, rfl⟩) | (go_at_call 18; (with_reducible refine (Put_no _ _ _ _ _ _ _ _ _ _ (HB.out.below hG HB.out.sz) HK.out l hl hl' v hv hv').mono ?_); rintro e w2 ⟨rfl, hb⟩; exact ⟨_, rfl, hb, rfl⟩) | (go_at_call 19; (with_reducible refine (rPut_no _ _ _ _ _ _ _ _ _ _ HK.out l hl hl' v hv hv').mono ?_); rintro e w2 ⟨rfl, hb⟩; exact ⟨_, rfl, hb, rfl⟩) | (go_at_call 9; (with_reducible refine (awake_any _ (HB.out.below hG HB.out.sz)).mono ?_); rintro e w2 ⟨rfl, hb⟩; exact ⟨_, rfl, hb, rfl⟩))) | (refine ⟨_, by assumption, (fun _ => ?_), (fun hh => absurd rfl hh)⟩; go_simp; (try go_ints); first | exact ⟨Rel.Grow.refl _, rfl⟩ | (refine Rel.opOk_enter ?_; first | (go_at_call 16; (with_reducible refine (Get_no _ _ _ _ _ _ _ _ _ _ (HB.out.below hG HB.out.sz) HK.out l hl hl').mono ?_); rintro e w2 ⟨rfl, hb⟩; exact ⟨_, rfl, hb, rfl⟩) | (go_at_call 17; (with_reducible refine (rGet_no _ _ _ _ _ _ _ _ _ _ HK.out l hl hl').mono ?_); rintro e w2 ⟨rfl, hb⟩; exact ⟨_, rfl, hb, rfl⟩) | (go_at_call 18; (with_reducible refine (Put_no _ _ _ _ _ _ _ _ _ _ (HB.out.below hG HB.out.sz) HK.out l hl hl' v hv hv').mono ?_); rintro e w2 ⟨rfl, hb⟩; exact ⟨_, rfl, hb, rfl⟩) | (go_at_call 19; (with_reducible refine (rPut_no _ _ _ _ _ _ _ _ _ _ HK.out l hl hl' v hv hv').mono ?_); rintro e w2 ⟨rfl, hb⟩; exact ⟨_, rfl, hb, rfl⟩) | (go_at_call 9; (with_reducible refine (awake_any _ (HB.out.below hG HB.out.sz)).mono ?_); rintro e w2 ⟨rfl, hb⟩; exact ⟨_, rfl, hb, rfl⟩))) | (refine ⟨_, by assumption, ?_, (fun _ => rfl)⟩; intro hh; cases hh; done))))
  refine Rel.lex_nil ?_
  intro w2 hG
  simp only [List.nil_append, List.cons_append]
  repeat (first | with_reducible refine Rel.forAllV_eq ?_ | (with_reducible refine Rel.forAllV_rel ?_; intro _ _))
  with_reducible refine Rel.forAllV_nil ?_
  simp only [List.append_eq, List.cons_append, List.nil_append, Rel.forAllV, Rel.putAll, List.take_succ_cons, List.take_zero, List.drop_succ_cons, List.drop_zero, Act.put, List.setIfInBounds_toArray, List.set_cons_succ, List.set_cons_zero]
  go_wp2
  go_ret
  exact ⟨rfl, (((Below.refl w.heap.size w).alloc (Nat.le_refl _) _).alloc (by simp) _).trans (hG.below (by simp; omega))⟩

theorem GeoWords_any (c h o s y d0 d1 d2 d3 : Int) (w : World) (hw : Bnd w) (l : Int) (hl : 0 ≤ l) (hl' : l ≤ 255) (v : Int) (hv : 0 ≤ v) (hv' : v ≤ 255) :
    Calls Tryd.prog 4 #[.agg #[.int .i64 c, .int .i64 h, .int .i64 o, .int .i64 s, .int .i64 y], .agg #[.int .u8 d0, .int .u8 d1, .int .u8 d2, .int .u8 d3], .int .u8 l, .int .u8 v] w fun e w' => e = .returned (.bool true) ∧ Below w.heap.size w w' := by
  by_cases hk : OkG c h o s y
  · exact GeoWords_yes c h o s y d0 d1 d2 d3 w hw hk l hl hl' v hv hv'
  · exact GeoWords_no c h o s y d0 d1 d2 d3 w hw hk l hl hl' v hv hv'
end Go.Proofs.YtolkajcgddiceaaDoor
