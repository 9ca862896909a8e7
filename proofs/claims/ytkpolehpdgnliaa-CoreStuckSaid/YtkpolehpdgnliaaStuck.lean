/-
  The law CoreStuck, as its row states it: a stuck core waits for the cache, has a buffered store or an undefined next instruction; Local leaves what it should. Conditions: the row's own.
-/
import Derived.Test.YtkpolehpdgnliaaRows
import Derived.Test.YtkpolehpdgnliaaOpen
import Derived.Test.YtkpolehpdgnliaaF7
import Derived.Test.YtkpolehpdgnliaaO30
set_option linter.unusedSimpArgs false
set_option linter.unusedVariables false
namespace Go.Proofs.Ytkpolehpdgnliaa.coreStuck
open Go Go.ChangeShapes Go.WideShapes Go.ChangeAt Go.RowKit Go.Proofs.Ytkpolehpdgnliaa

theorem own : ownKnob Try.prog.godebug = none := by kernel_rfl
theorem laidOut : laidOutB Try.prog = true := by kernel_rfl
theorem reads_all : (Try.f4.params.toList).all (fun t => Try.prog.readableRec t && decide (t < Try.prog.types.size)) = true := by kernel_rfl

theorem contract (H : Type) (enc : TypeId × Value → H) (W : World) (base : Nat) (args : Array Value) (ds gs : List (DataW H)) (before : List MemPlace)
    (hval : ∀ (j : Nat) t v, Try.f4.params[j]? = some t → args[j]? = some v → Value.okWide Try.prog W .any base t v)
    (hW : DataW.Whole enc Try.prog Try.f4.params.toList Rows.coreStuckSpec.vars false W args.toList ds gs before) (hsz : (DataW.weightsEach Try.prog (Try.f4.params.toList ++ (OpenSpec.ofChange Rows.coreStuckSpec).bare.plain.varTypes Try.prog) (ds ++ gs)).all (· ≤ reachBytes) = true) (hL : laidMetH Try.prog Rows.coreStuckRow.laid W) :
    Calls Try.prog 4 args W fun e W' => ∃ v, e = .returned v ∧ Rows.coreStuckSpec.post enc Try.prog Try.f4 false true false false W args v W' := by
  have hW' := hW
  obtain ⟨p, q, hA0, hV, rfl, hfz, hnd⟩ := hW
  have hA : DataW.TrodAll enc Try.prog W 0 (fun _ => true) true Try.f4.params.toList args.toList ds p := hA0
  rw [Try.params4] at hA hval hsz
  obtain ⟨v0, vs0, d0, ds0, p0, q0, hargs, rfl, rfl, h0, t0⟩ := trodAll_cons hA
  obtain ⟨v1, vs1, d1, ds1, p1, q1, rfl, rfl, rfl, h1, t1⟩ := trodAll_cons t0
  obtain ⟨v2, vs2, d2, ds2, p2, q2, rfl, rfl, rfl, h2, t2⟩ := trodAll_cons t1
  obtain ⟨rfl, rfl, rfl⟩ := trodAll_nil t2
  obtain rfl : args = #[v0, v1, v2] := by cases args; simp_all
  clear hA0
  have hGl : Ev.Gl Ev.Cx.T.gl (fun _ => False) W := fun g xs hg => by cases hg
  obtain ⟨a0, f0, r0⟩ := open_one 8 (show flatS Try.prog 8 33 = some [.sl [.sc (.int .u8), .sc (.int .u8), .sc (.int .u8), .sc .bool, .sc (.int .u8), .sc .bool, .sc (.int .u8), .sc (.int .u8), .sc (.int .u8), .sc (.int .u8)]] by kernel_rfl) (notAgg (hval 0 33 v0 rfl rfl) (by kernel_rfl)) h0 (fun k hk => by simpa using List.all_eq_true.1 hsz k (DataW.weights_mem_each (j := 0) (t := 33) rfl rfl k hk))
  obtain ⟨a1, f1, r1⟩ := open_agg 8 (show flatS Try.prog 8 35 = some [.sc (.int .u8), .sc (.int .u8), .sc (.int .u8), .sc (.int .i64), .sc .bool] by kernel_rfl) (okWide_struct Try.underlying35 (hval 1 35 v1 rfl rfl)) h1 (fun k hk => by simpa using List.all_eq_true.1 hsz k (DataW.weights_mem_each (j := 1) (t := 35) rfl rfl k hk))
  obtain ⟨a2, f2, r2⟩ := open_agg 8 (show flatS Try.prog 8 27 = some [.sc (.int .u8), .sc (.int .u8), .sc (.int .u8), .sc (.int .u8), .sc (.int .u8), .sc (.int .u8), .sc (.int .u8), .sc (.int .u8), .sc (.int .u8), .sl [.sc (.int .u8), .sc (.int .u8)], .sc .bool, .sc .bool] by kernel_rfl) (okWide_struct Try.underlying27 (hval 2 27 v2 rfl rfl)) h2 (fun k hk => by simpa using List.all_eq_true.1 hsz k (DataW.weights_mem_each (j := 2) (t := 27) rfl rfl k hk))
  obtain ⟨l, rfl, l1, l2⟩ := open_ins f0
  obtain ⟨_, _, rfl, x1_0h, x1_0⟩ := fitsA_cons f1
  obtain ⟨nt, rfl, nt1, nt2⟩ := sh_u8 x1_0h
  obtain ⟨_, _, rfl, x1_1h, x1_1⟩ := fitsA_cons x1_0
  obtain ⟨vw, rfl, vw1, vw2⟩ := sh_u8 x1_1h
  obtain ⟨_, _, rfl, x1_2h, x1_2⟩ := fitsA_cons x1_1
  obtain ⟨rp, rfl, rp1, rp2⟩ := sh_u8 x1_2h
  obtain ⟨_, _, rfl, x1_3h, x1_3⟩ := fitsA_cons x1_2
  obtain ⟨b, rfl, b1, b2⟩ := sh_i64 x1_3h
  obtain ⟨_, _, rfl, x1_4h, x1_4⟩ := fitsA_cons x1_3
  obtain ⟨ev, rfl⟩ := sh_bool x1_4h
  obtain rfl := fitsA_nil x1_4
  obtain ⟨_, _, rfl, c0h, c0⟩ := fitsA_cons f2
  obtain ⟨pc, rfl, pc1, pc2⟩ := sh_u8 c0h
  obtain ⟨_, _, rfl, c1h, c1⟩ := fitsA_cons c0
  obtain ⟨g0, rfl, g01, g02⟩ := sh_u8 c1h
  obtain ⟨_, _, rfl, c2h, c2⟩ := fitsA_cons c1
  obtain ⟨g1, rfl, g11, g12⟩ := sh_u8 c2h
  obtain ⟨_, _, rfl, c3h, c3⟩ := fitsA_cons c2
  obtain ⟨g2, rfl, g21, g22⟩ := sh_u8 c3h
  obtain ⟨_, _, rfl, c4h, c4⟩ := fitsA_cons c3
  obtain ⟨g3, rfl, g31, g32⟩ := sh_u8 c4h
  obtain ⟨_, _, rfl, c5h, c5⟩ := fitsA_cons c4
  obtain ⟨g4, rfl, g41, g42⟩ := sh_u8 c5h
  obtain ⟨_, _, rfl, c6h, c6⟩ := fitsA_cons c5
  obtain ⟨g5, rfl, g51, g52⟩ := sh_u8 c6h
  obtain ⟨_, _, rfl, c7h, c7⟩ := fitsA_cons c6
  obtain ⟨g6, rfl, g61, g62⟩ := sh_u8 c7h
  obtain ⟨_, _, rfl, c8h, c8⟩ := fitsA_cons c7
  obtain ⟨g7, rfl, g71, g72⟩ := sh_u8 c8h
  obtain ⟨_, _, rfl, c9h, c9⟩ := fitsA_cons c8
  obtain ⟨bs, rfl, bs1, bs2⟩ := open_buf c9h
  obtain ⟨_, _, rfl, c10h, c10⟩ := fitsA_cons c9
  obtain ⟨w, rfl⟩ := sh_bool c10h
  obtain ⟨_, _, rfl, c11h, c11⟩ := fitsA_cons c10
  obtain ⟨d, rfl⟩ := sh_bool c11h
  obtain rfl := fitsA_nil c11
  refine ((Ev.CoreStuck_ev l l1 l2 nt vw rp b ev pc (fun i => [g0, g1, g2, g3, g4, g5, g6, g7].getD i 0) bs w d pc1 pc2 (regs_ok ⟨g01, g02⟩ ⟨g11, g12⟩ ⟨g21, g22⟩ ⟨g31, g32⟩ ⟨g41, g42⟩ ⟨g51, g52⟩ ⟨g61, g62⟩ ⟨g71, g72⟩) bs1).calls Ev.CxOk W _ hGl (Ev.RL.cons r0 (Ev.RL.cons r1 (Ev.RL.cons r2 Ev.RL.nil)))).mono ?_
  rintro e W' ⟨v, rfl, hb, hv⟩
  rw [Ev.R] at hv
  subst hv
  exact ⟨_, rfl, law_post laidOut reads_all rfl rfl Try.underlying4 ⟨rfl, rfl, rfl⟩ hW' hb⟩

/-- A WORLD FOR THE WITNESS: the settled one, each listed variable holding what its initialiser lays. -/
noncomputable def laidWorld (os : Os) : World :=
  World.holding Try.prog os ⟨#[], #[], []⟩
theorem laid_met (os : Os) : laidMet Try.prog Rows.coreStuckRow.laid ((laidWorld os).forCall (fun _ _ => 0) ⟨#[], #[.slice none 0 0, .agg #[.int .u8 0, .int .u8 0, .int .u8 0, .int .i64 0, .bool false], .agg #[.int .u8 0, .int .u8 0, .int .u8 0, .int .u8 0, .int .u8 0, .int .u8 0, .int .u8 0, .int .u8 0, .int .u8 0, .slice none 0 0, .bool false, .bool false]], []⟩).memory :=
  laidMet_of_run' 8 (by kernel_rfl) (by kernel_rfl)
theorem reads (os : Os) {H : Type} (enc : TypeId × Value → H) : ∃ places, DataW.whole enc Try.prog ((laidWorld os).forCall (fun _ _ => 0) ⟨#[], #[.slice none 0 0, .agg #[.int .u8 0, .int .u8 0, .int .u8 0, .int .i64 0, .bool false], .agg #[.int .u8 0, .int .u8 0, .int .u8 0, .int .u8 0, .int .u8 0, .int .u8 0, .int .u8 0, .int .u8 0, .int .u8 0, .slice none 0 0, .bool false, .bool false]], []⟩).memory Try.f4.params.toList Rows.coreStuckSpec.vars false (#[.slice none 0 0, .agg #[.int .u8 0, .int .u8 0, .int .u8 0, .int .i64 0, .bool false], .agg #[.int .u8 0, .int .u8 0, .int .u8 0, .int .u8 0, .int .u8 0, .int .u8 0, .int .u8 0, .int .u8 0, .int .u8 0, .slice none 0 0, .bool false, .bool false]] : Array Value).toList 8 = some ([.nil, .agg [.lit (.int .u8 0), .lit (.int .u8 0), .lit (.int .u8 0), .lit (.int .i64 0), .lit (.bool false)], .agg [.lit (.int .u8 0), .agg [.lit (.int .u8 0), .lit (.int .u8 0), .lit (.int .u8 0), .lit (.int .u8 0), .lit (.int .u8 0), .lit (.int .u8 0), .lit (.int .u8 0), .lit (.int .u8 0)], .nil, .lit (.bool false), .lit (.bool false)]], [], places) :=
  ⟨[], by kernel_rfl⟩

set_option maxRecDepth 100000 in
theorem lifted (os : Os) (started : os.Started) (H : Type) (enc : TypeId × Value → H) (F : Stop.Interp) :
    ReturnsInHanded {} Try.checked os 4 .any ((OpenSpec.ofChange Rows.coreStuckSpec).preRow enc Try.prog Try.f4 Rows.coreStuckRow.domain false Rows.coreStuckRow.laid) (((OpenSpec.ofChange Rows.coreStuckSpec).at F).post enc Try.prog Try.f4 false true false false) := by
  obtain ⟨places, hx⟩ := reads os enc
  refine returnsInHanded_of_row (C := Try.checked) (s := OpenSpec.ofChange Rows.coreStuckSpec) own started (by kernel_rfl) Try.func4
    (witness_row_at (enc := enc) (C := Try.checked) false (laidWorld os) #[.slice none 0 0, .agg #[.int .u8 0, .int .u8 0, .int .u8 0, .int .i64 0, .bool false], .agg #[.int .u8 0, .int .u8 0, .int .u8 0, .int .u8 0, .int .u8 0, .int .u8 0, .int .u8 0, .int .u8 0, .int .u8 0, .slice none 0 0, .bool false, .bool false]] rfl (by kernel_rfl) (by kernel_rfl) (by kernel_rfl)
      (OpenSpec.preRow_of_cond 8 hx (by kernel_rfl) (fun k hk => by cases hk) (by kernel_rfl) (laid_met os))) ?_
  intro W base args ds gs before hval hW _ _ hsz hL _ _
  exact contract H enc W base args ds gs before hval hW hsz hL

theorem said : Rows.CoreStuckSaid :=
  OpenClaim.holds_of_cond 4 Try.f4 rfl rfl rfl rfl rfl rfl rfl ⟨rfl, rfl, rfl, rfl, rfl⟩ rfl rfl rfl rfl rfl (by kernel_rfl) Try.func4 (by kernel_rfl)
    (of_decide_eq_true (by kernel_rfl)) (by unfold Func.isWrapper; first | (rw [if_pos (by decide +kernel)]; kernel_rfl) | (rw [if_neg (by decide +kernel)]; exact ⟨rfl, rfl⟩))
    (fun os started H enc _ F => by rw [OpenClaim.pre_eq_preRow]; exact lifted os started H enc F)

#print axioms said
end Go.Proofs.Ytkpolehpdgnliaa.coreStuck
