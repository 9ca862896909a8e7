/-
  The law CoreCalcs, as its row states it: for all numbers, Calc, Test and Value return what the reference returns. Conditions: the row's own.
-/
import Derived.Test.YtkpolehpdgnliaaRows
import Derived.Test.YtkpolehpdgnliaaOpen
import Derived.Test.YtkpolehpdgnliaaF2
set_option linter.unusedSimpArgs false
set_option linter.unusedVariables false
namespace Go.Proofs.Ytkpolehpdgnliaa.coreCalcs
open Go Go.ChangeShapes Go.WideShapes Go.ChangeAt Go.RowKit Go.Proofs.Ytkpolehpdgnliaa

theorem own : ownKnob Try.prog.godebug = none := by kernel_rfl
theorem laidOut : laidOutB Try.prog = true := by kernel_rfl
theorem reads_all : (Try.f3.params.toList).all (fun t => Try.prog.readableRec t && decide (t < Try.prog.types.size)) = true := by kernel_rfl

theorem contract (H : Type) (enc : TypeId × Value → H) (W : World) (base : Nat) (args : Array Value) (ds gs : List (DataW H)) (before : List MemPlace)
    (hval : ∀ (j : Nat) t v, Try.f3.params[j]? = some t → args[j]? = some v → Value.okWide Try.prog W .any base t v)
    (hW : DataW.Whole enc Try.prog Try.f3.params.toList Rows.coreCalcsSpec.vars false W args.toList ds gs before) (hL : laidMetH Try.prog Rows.coreCalcsRow.laid W) :
    Calls Try.prog 3 args W fun e W' => ∃ v, e = .returned v ∧ Rows.coreCalcsSpec.post enc Try.prog Try.f3 false true false false W args v W' := by
  have hW' := hW
  obtain ⟨p, q, hA0, hV, rfl, hfz, hnd⟩ := hW
  have hA : DataW.TrodAll enc Try.prog W 0 (fun _ => true) true Try.f3.params.toList args.toList ds p := hA0
  rw [Try.params3] at hA hval
  obtain ⟨v0, vs0, d0, ds0, p0, q0, hargs, rfl, rfl, h0, t0⟩ := trodAll_cons hA
  obtain ⟨v1, vs1, d1, ds1, p1, q1, rfl, rfl, rfl, h1, t1⟩ := trodAll_cons t0
  obtain ⟨v2, vs2, d2, ds2, p2, q2, rfl, rfl, rfl, h2, t2⟩ := trodAll_cons t1
  obtain ⟨v3, vs3, d3, ds3, p3, q3, rfl, rfl, rfl, h3, t3⟩ := trodAll_cons t2
  obtain ⟨v4, vs4, d4, ds4, p4, q4, rfl, rfl, rfl, h4, t4⟩ := trodAll_cons t3
  obtain ⟨rfl, rfl, rfl⟩ := trodAll_nil t4
  obtain rfl : args = #[v0, v1, v2, v3, v4] := by cases args; simp_all
  clear hA0
  have hGl : Ev.Gl Ev.Cx.T.gl (fun _ => False) W := fun g xs hg => by cases hg
  obtain ⟨a0, f0, r0⟩ := open_one 8 (show flatS Try.prog 8 5 = some [.sc (.int .u8)] by kernel_rfl) (notAgg (hval 0 5 v0 rfl rfl) (by kernel_rfl)) h0
  obtain ⟨a1, f1, r1⟩ := open_one 8 (show flatS Try.prog 8 5 = some [.sc (.int .u8)] by kernel_rfl) (notAgg (hval 1 5 v1 rfl rfl) (by kernel_rfl)) h1
  obtain ⟨a2, f2, r2⟩ := open_one 8 (show flatS Try.prog 8 5 = some [.sc (.int .u8)] by kernel_rfl) (notAgg (hval 2 5 v2 rfl rfl) (by kernel_rfl)) h2
  obtain ⟨a3, f3, r3⟩ := open_agg 8 (show flatS Try.prog 8 23 = some [.sc .bool, .sc (.int .u8)] by kernel_rfl) (okWide_struct Try.underlying23 (hval 3 23 v3 rfl rfl)) h3
  obtain ⟨a4, f4, r4⟩ := open_agg 8 (show flatS Try.prog 8 24 = some [.sc (.int .u8), .sc (.int .u8), .sc (.int .u8), .sc (.int .u8), .sc (.int .u8), .sc (.int .u8), .sc (.int .u8), .sc (.int .u8)] by kernel_rfl) (okWide_array Try.underlying24 (hval 4 24 v4 rfl rfl)) h4
  obtain ⟨fn, rfl, fn1, fn2⟩ := sh_u8 f0
  obtain ⟨a, rfl, a1, a2⟩ := sh_u8 f1
  obtain ⟨b, rfl, b1, b2⟩ := sh_u8 f2
  obtain ⟨_, _, rfl, x3_0h, x3_0⟩ := fitsA_cons f3
  obtain ⟨r, rfl⟩ := sh_bool x3_0h
  obtain ⟨_, _, rfl, x3_1h, x3_1⟩ := fitsA_cons x3_0
  obtain ⟨n, rfl, n1, n2⟩ := sh_u8 x3_1h
  obtain rfl := fitsA_nil x3_1
  obtain ⟨_, _, rfl, x4_0h, x4_0⟩ := fitsA_cons f4
  obtain ⟨g0, rfl, g01, g02⟩ := sh_u8 x4_0h
  obtain ⟨_, _, rfl, x4_1h, x4_1⟩ := fitsA_cons x4_0
  obtain ⟨g1, rfl, g11, g12⟩ := sh_u8 x4_1h
  obtain ⟨_, _, rfl, x4_2h, x4_2⟩ := fitsA_cons x4_1
  obtain ⟨g2, rfl, g21, g22⟩ := sh_u8 x4_2h
  obtain ⟨_, _, rfl, x4_3h, x4_3⟩ := fitsA_cons x4_2
  obtain ⟨g3, rfl, g31, g32⟩ := sh_u8 x4_3h
  obtain ⟨_, _, rfl, x4_4h, x4_4⟩ := fitsA_cons x4_3
  obtain ⟨g4, rfl, g41, g42⟩ := sh_u8 x4_4h
  obtain ⟨_, _, rfl, x4_5h, x4_5⟩ := fitsA_cons x4_4
  obtain ⟨g5, rfl, g51, g52⟩ := sh_u8 x4_5h
  obtain ⟨_, _, rfl, x4_6h, x4_6⟩ := fitsA_cons x4_5
  obtain ⟨g6, rfl, g61, g62⟩ := sh_u8 x4_6h
  obtain ⟨_, _, rfl, x4_7h, x4_7⟩ := fitsA_cons x4_6
  obtain ⟨g7, rfl, g71, g72⟩ := sh_u8 x4_7h
  obtain rfl := fitsA_nil x4_7
  refine ((Ev.CoreCalcs_ev fn a b r n g0 g1 g2 g3 g4 g5 g6 g7 fn1 fn2 a1 a2 b1 b2 n1 n2).calls Ev.CxOk W _ hGl (Ev.RL.cons r0 (Ev.RL.cons r1 (Ev.RL.cons r2 (Ev.RL.cons r3 (Ev.RL.cons r4 Ev.RL.nil)))))).mono ?_
  rintro e W' ⟨v, rfl, hb, hv⟩
  rw [Ev.R] at hv
  subst hv
  exact ⟨_, rfl, law_post laidOut reads_all rfl rfl Try.underlying4 ⟨rfl, rfl, rfl⟩ hW' hb⟩

/-- A WORLD FOR THE WITNESS: the settled one, each listed variable holding what its initialiser lays. -/
noncomputable def laidWorld (os : Os) : World :=
  World.holding Try.prog os ⟨#[], #[], []⟩
theorem laid_met (os : Os) : laidMet Try.prog Rows.coreCalcsRow.laid ((laidWorld os).forCall (fun _ _ => 0) ⟨#[], #[.int .u8 0, .int .u8 0, .int .u8 0, .agg #[.bool false, .int .u8 0], .agg #[.int .u8 0, .int .u8 0, .int .u8 0, .int .u8 0, .int .u8 0, .int .u8 0, .int .u8 0, .int .u8 0]], []⟩).memory :=
  laidMet_of_run' 8 (by kernel_rfl) (by kernel_rfl)
theorem reads (os : Os) {H : Type} (enc : TypeId × Value → H) : ∃ places, DataW.whole enc Try.prog ((laidWorld os).forCall (fun _ _ => 0) ⟨#[], #[.int .u8 0, .int .u8 0, .int .u8 0, .agg #[.bool false, .int .u8 0], .agg #[.int .u8 0, .int .u8 0, .int .u8 0, .int .u8 0, .int .u8 0, .int .u8 0, .int .u8 0, .int .u8 0]], []⟩).memory Try.f3.params.toList Rows.coreCalcsSpec.vars false (#[.int .u8 0, .int .u8 0, .int .u8 0, .agg #[.bool false, .int .u8 0], .agg #[.int .u8 0, .int .u8 0, .int .u8 0, .int .u8 0, .int .u8 0, .int .u8 0, .int .u8 0, .int .u8 0]] : Array Value).toList 8 = some ([.lit (.int .u8 0), .lit (.int .u8 0), .lit (.int .u8 0), .agg [.lit (.bool false), .lit (.int .u8 0)], .agg [.lit (.int .u8 0), .lit (.int .u8 0), .lit (.int .u8 0), .lit (.int .u8 0), .lit (.int .u8 0), .lit (.int .u8 0), .lit (.int .u8 0), .lit (.int .u8 0)]], [], places) :=
  ⟨[], by kernel_rfl⟩

set_option maxRecDepth 100000 in
theorem lifted (os : Os) (started : os.Started) (H : Type) (enc : TypeId × Value → H) (F : Stop.Interp) :
    ReturnsInHanded {} Try.checked os 3 .any ((OpenSpec.ofChange Rows.coreCalcsSpec).preRow enc Try.prog Try.f3 Rows.coreCalcsRow.domain false Rows.coreCalcsRow.laid) (((OpenSpec.ofChange Rows.coreCalcsSpec).at F).post enc Try.prog Try.f3 false true false false) := by
  obtain ⟨places, hx⟩ := reads os enc
  refine returnsInHanded_of_row (C := Try.checked) (s := OpenSpec.ofChange Rows.coreCalcsSpec) own started (by kernel_rfl) Try.func3
    (witness_row_at (enc := enc) (C := Try.checked) false (laidWorld os) #[.int .u8 0, .int .u8 0, .int .u8 0, .agg #[.bool false, .int .u8 0], .agg #[.int .u8 0, .int .u8 0, .int .u8 0, .int .u8 0, .int .u8 0, .int .u8 0, .int .u8 0, .int .u8 0]] rfl (by kernel_rfl) (by kernel_rfl) (by kernel_rfl)
      (OpenSpec.preRow_of_cond 8 hx (by kernel_rfl) (fun k hk => by cases hk) (by kernel_rfl) (laid_met os))) ?_
  intro W base args ds gs before hval hW _ _ _ hL _ _
  exact contract H enc W base args ds gs before hval hW hL

theorem said : Rows.CoreCalcsSaid :=
  OpenClaim.holds_of_cond 3 Try.f3 rfl rfl rfl rfl rfl rfl rfl ⟨rfl, rfl, rfl, rfl, rfl⟩ rfl rfl rfl rfl rfl (by kernel_rfl) Try.func3 (by kernel_rfl)
    (of_decide_eq_true (by kernel_rfl)) (by unfold Func.isWrapper; first | (rw [if_pos (by decide +kernel)]; kernel_rfl) | (rw [if_neg (by decide +kernel)]; exact ⟨rfl, rfl⟩))
    (fun os started H enc _ F => by rw [OpenClaim.pre_eq_preRow]; exact lifted os started H enc F)

#print axioms said
end Go.Proofs.Ytkpolehpdgnliaa.coreCalcs
