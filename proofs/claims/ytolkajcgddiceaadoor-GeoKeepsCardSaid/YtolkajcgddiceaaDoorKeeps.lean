/-
  The law GeoKeeps, as its tied card states it: a word that was replaced can be read, the others are unchanged, and replacing it by its old value restores the line. Conditions: the row's own.
-/
import Derived.Test.YtolkajcgddiceaaDoorCards
import Derived.Test.YtolkajcgddiceaaDoorTie
import Derived.Test.YtolkajcgddiceaaDoorFrame
import Derived.Test.YtolkajcgddiceaaDoorL3
namespace Go.Proofs.YtolkajcgddiceaaDoor.geoKeeps
open Go.ChangeShapes Go.WideShapes Go.ChangeAt Go.RowKit Go.Proofs.YtolkajcgddiceaaDoor

theorem own : ownKnob Tryd.prog.godebug = none := by kernel_rfl
theorem laidOut : laidOutB Tryd.prog = true := by kernel_rfl
theorem reads_all : (Tryd.f5.params.toList).all (fun t => Tryd.prog.readableRec t && decide (t < Tryd.prog.types.size)) = true := by kernel_rfl

theorem contract (H : Type) (enc : TypeId × Value → H) (W : World) (base : Nat) (args : Array Value) (ds gs : List (DataW H)) (before : List MemPlace)
    (hval : ∀ (j : Nat) t v, Tryd.f5.params[j]? = some t → args[j]? = some v → Value.okWide Tryd.prog W .any base t v)
    (hW : DataW.Whole enc Tryd.prog Tryd.f5.params.toList Rows.geoKeepsSpec.vars false W args.toList ds gs before) (hL : laidMetH Tryd.prog Rows.geoKeepsRow.laid W) :
    Calls Tryd.prog 5 args W fun e W' => ∃ v, e = .returned v ∧ Rows.geoKeepsSpec.post enc Tryd.prog Tryd.f5 false true false false W args v W' := by
  have hW' := hW
  obtain ⟨p, q, hA0, hV, rfl, hfz, hnd⟩ := hW
  have hA : DataW.TrodAll enc Tryd.prog W 0 (fun _ => true) true Tryd.f5.params.toList args.toList ds p := hA0
  rw [Tryd.params5] at hA hval
  obtain ⟨v0, vs0, d0, ds0, p0, q0, hargs, rfl, rfl, h0, r0⟩ := trodAll_cons hA
  obtain ⟨v1, vs1, d1, ds1, p1, q1, rfl, rfl, rfl, h1, r1⟩ := trodAll_cons r0
  obtain ⟨v2, vs2, d2, ds2, p2, q2, rfl, rfl, rfl, h2, r2⟩ := trodAll_cons r1
  obtain ⟨v3, vs3, d3, ds3, p3, q3, rfl, rfl, rfl, h3, r3⟩ := trodAll_cons r2
  obtain ⟨rfl, rfl, rfl⟩ := trodAll_nil r3
  obtain rfl : args = #[v0, v1, v2, v3] := by cases args; simp_all
  clear hA0
  have hT : Lib.TabIs Tryd.prog W "seisin/geo.bounds" .i64 [4, 2, 4, 4, 4] :=
    Lib.tabIs_of_head (rest := []) (show Tryd.prog.globalNamed "seisin/geo.bounds" = some 0 by kernel_rfl) (show (Tryd.prog.globals[0]?).map (·.type) = some 40 by kernel_rfl) Tryd.underlying40 Tryd.underlying3 (show Tryd.prog.cellsOf 3 = 1 by kernel_rfl) (show Tryd.prog.cellsOf 40 = 5 by kernel_rfl) hL
  have hG : Tryd.prog.globalNamed "seisin/geo.bounds" = some 0 := by kernel_rfl
  have hBnd : Bnd W := ⟨hT.cell hG 0 (by decide), hT.cell hG 1 (by decide), hT.cell hG 2 (by decide), hT.cell hG 3 (by decide), hT.cell hG 4 (by decide), World.block_lt_of_cell? W ⟨0, 0, none⟩ (hT.cell hG 0 (by decide))⟩
  obtain ⟨l0, rfl, g0_0⟩ := open_flat 6 (show flat Tryd.prog 6 23 = some [.int .i64, .int .i64, .int .i64, .int .i64, .int .i64] by kernel_rfl) (okWide_struct Tryd.underlying23 (hval 0 23 v0 rfl rfl)) h0
  obtain ⟨_, _, rfl, ⟨c, rfl, w_c⟩, g0_1⟩ := fits_cons g0_0
  obtain ⟨_, _, rfl, ⟨h, rfl, w_h⟩, g0_2⟩ := fits_cons g0_1
  obtain ⟨_, _, rfl, ⟨o, rfl, w_o⟩, g0_3⟩ := fits_cons g0_2
  obtain ⟨_, _, rfl, ⟨s, rfl, w_s⟩, g0_4⟩ := fits_cons g0_3
  obtain ⟨_, _, rfl, ⟨y, rfl, w_y⟩, g0_5⟩ := fits_cons g0_4
  obtain rfl := fits_nil g0_5
  obtain ⟨l1, rfl, g1_0⟩ := open_flat 6 (show flat Tryd.prog 6 32 = some [.int .u8, .int .u8, .int .u8, .int .u8] by kernel_rfl) (okWide_array Tryd.underlying32 (hval 1 32 v1 rfl rfl)) h1
  obtain ⟨_, _, rfl, ⟨d0, rfl, w_d0⟩, g1_1⟩ := fits_cons g1_0
  obtain ⟨_, _, rfl, ⟨d1, rfl, w_d1⟩, g1_2⟩ := fits_cons g1_1
  obtain ⟨_, _, rfl, ⟨d2, rfl, w_d2⟩, g1_3⟩ := fits_cons g1_2
  obtain ⟨_, _, rfl, ⟨d3, rfl, w_d3⟩, g1_4⟩ := fits_cons g1_3
  obtain rfl := fits_nil g1_4
  obtain ⟨l, e2, -, -, w2⟩ := open_int Tryd.underlying5 (hval 2 5 v2 rfl rfl) h2
  subst e2
  obtain ⟨b2l, b2h⟩ := u8_bounds w2
  obtain ⟨x, e3, -, -, w3⟩ := open_int Tryd.underlying5 (hval 3 5 v3 rfl rfl) h3
  subst e3
  obtain ⟨b3l, b3h⟩ := u8_bounds w3
  refine (GeoKeeps_any c h o s y d0 d1 d2 d3 W hBnd l b2l b2h x b3l b3h (u8_bounds w_d0) (u8_bounds w_d1) (u8_bounds w_d2) (u8_bounds w_d3)).mono fun e W' ⟨he, hb⟩ => ?_
  subst he
  exact ⟨_, rfl, law_post laidOut reads_all rfl rfl Tryd.underlying4 ⟨rfl, rfl, rfl⟩ hW' hb⟩

/-- A WORLD FOR THE WITNESS: the settled one, each listed variable holding what its initialiser lays. -/
noncomputable def laidWorld (os : Os) : World :=
  { World.holding Tryd.prog os ⟨#[], #[], []⟩ with heap := (World.holding Tryd.prog os ⟨#[], #[], []⟩).heap.modify 0 fun
      | .cells _ t frozen => .cells #[.int .i64 4, .int .i64 2, .int .i64 4, .int .i64 4, .int .i64 4] t frozen
      | o => o }
theorem laid_met (os : Os) : laidMet Tryd.prog Rows.geoKeepsRow.laid ((laidWorld os).forCall (fun _ _ => 0) ⟨#[], #[.agg #[.int .i64 0, .int .i64 0, .int .i64 0, .int .i64 0, .int .i64 0], .agg #[.int .u8 0, .int .u8 0, .int .u8 0, .int .u8 0], .int .u8 0, .int .u8 0], []⟩).memory :=
  laidMet_of_run' 8 (by kernel_rfl) (by kernel_rfl)
theorem reads (os : Os) {H : Type} (enc : TypeId × Value → H) : ∃ places, DataW.whole enc Tryd.prog ((laidWorld os).forCall (fun _ _ => 0) ⟨#[], #[.agg #[.int .i64 0, .int .i64 0, .int .i64 0, .int .i64 0, .int .i64 0], .agg #[.int .u8 0, .int .u8 0, .int .u8 0, .int .u8 0], .int .u8 0, .int .u8 0], []⟩).memory Tryd.f5.params.toList Rows.geoKeepsSpec.vars false (#[.agg #[.int .i64 0, .int .i64 0, .int .i64 0, .int .i64 0, .int .i64 0], .agg #[.int .u8 0, .int .u8 0, .int .u8 0, .int .u8 0], .int .u8 0, .int .u8 0] : Array Value).toList 8 = some ([.agg [.lit (.int .i64 0), .lit (.int .i64 0), .lit (.int .i64 0), .lit (.int .i64 0), .lit (.int .i64 0)], .agg [.lit (.int .u8 0), .lit (.int .u8 0), .lit (.int .u8 0), .lit (.int .u8 0)], .lit (.int .u8 0), .lit (.int .u8 0)], [], places) :=
  ⟨[], by kernel_rfl⟩

set_option maxRecDepth 100000 in
theorem lifted (os : Os) (started : os.Started) (H : Type) (enc : TypeId × Value → H) (F : Stop.Interp) :
    ReturnsInHanded {} Tryd.checked os 5 .any ((OpenSpec.ofChange Rows.geoKeepsSpec).preRow enc Tryd.prog Tryd.f5 Rows.geoKeepsRow.domain false Rows.geoKeepsRow.laid) (((OpenSpec.ofChange Rows.geoKeepsSpec).at F).post enc Tryd.prog Tryd.f5 false true false false) := by
  obtain ⟨places, hx⟩ := reads os enc
  refine returnsInHanded_of_row (C := Tryd.checked) (s := OpenSpec.ofChange Rows.geoKeepsSpec) own started (by kernel_rfl) Tryd.func5
    (witness_row_at (enc := enc) (C := Tryd.checked) false (laidWorld os) #[.agg #[.int .i64 0, .int .i64 0, .int .i64 0, .int .i64 0, .int .i64 0], .agg #[.int .u8 0, .int .u8 0, .int .u8 0, .int .u8 0], .int .u8 0, .int .u8 0] rfl (by kernel_rfl) (by kernel_rfl) (by kernel_rfl)
      (OpenSpec.preRow_of_cond 8 hx (by kernel_rfl) (fun k hk => by cases hk) (by kernel_rfl) (laid_met os))) ?_
  intro W base args ds gs before hval hW _ _ _ hL _ _
  exact contract H enc W base args ds gs before hval hW hL

theorem said : Rows.GeoKeepsSaid :=
  OpenClaim.holds_of_cond 5 Tryd.f5 rfl rfl rfl rfl rfl rfl rfl ⟨rfl, rfl, rfl, rfl, rfl⟩ rfl rfl rfl rfl rfl (by kernel_rfl) Tryd.func5 (by kernel_rfl)
    (of_decide_eq_true (by kernel_rfl)) (by unfold Func.isWrapper; first | (rw [if_pos (by decide +kernel)]; kernel_rfl) | (rw [if_neg (by decide +kernel)]; exact ⟨rfl, rfl⟩))
    (fun os started H enc _ F => by rw [OpenClaim.pre_eq_preRow]; exact lifted os started H enc F)

theorem plain (f : FuncId) (fn : Func) (hf : Tryd.pinned.checked.prog.funcNamed "seisin/seisinlaw16.GeoKeeps" = some f) (hfn : Tryd.pinned.checked.prog.funcs[f]? = some fn) :
    false = Tryd.pinned.checked.prog.looks [] ∧ ∀ (j : Nat) t, fn.params[j]? = some t → Tryd.pinned.checked.prog.wantsStandIn t = false := by
  obtain rfl : f = 5 := Option.some.inj ((show Tryd.prog.funcNamed "seisin/seisinlaw16.GeoKeeps" = some 5 by kernel_rfl).symm.trans hf) |>.symm
  obtain rfl : fn = Tryd.f5 := (Option.some.inj (Tryd.func5.symm.trans hfn)).symm
  refine ⟨by kernel_rfl, fun j t ht => ?_⟩
  have hall : (Tryd.f5.params.toList).all (fun t => !Tryd.prog.wantsStandIn t) = true := by kernel_rfl
  have := List.all_eq_true.1 hall t (Array.mem_toList_iff.2 (Array.mem_of_getElem? ht))
  exact (by simpa using this : Tryd.prog.wantsStandIn t = false)

theorem card : Rows.GeoKeepsCardSaid :=
  Claim7.holds_tied_plain_at .later [] _ _ _ _ said (fun _ h => by cases h) (by kernel_rfl) (fun _ h => by cases h) geoKeeps_row_tie rfl ⟨rfl, rfl⟩ (by kernel_rfl) rfl plain (by kernel_rfl)
#print axioms card
end Go.Proofs.YtolkajcgddiceaaDoor.geoKeeps
