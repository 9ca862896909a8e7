/-
  The law CoreOrder, as its row states it: stores leave the buffer in the order in which they enter it, each once and unchanged. Conditions: the row's own.
-/
import Derived.Test.YtkpolehpdgnliaaRows
import Derived.Test.YtkpolehpdgnliaaOpen
import Derived.Test.YtkpolehpdgnliaaFK
import Derived.Test.YtkpolehpdgnliaaO31
set_option linter.unusedSimpArgs false
set_option linter.unusedVariables false
namespace Go.Proofs.Ytkpolehpdgnliaa.coreOrder
open Go Go.ChangeShapes Go.WideShapes Go.ChangeAt Go.RowKit Go.Proofs.Ytkpolehpdgnliaa

theorem own : ownKnob Try.prog.godebug = none := by kernel_rfl
theorem laidOut : laidOutB Try.prog = true := by kernel_rfl
theorem reads_all : (Try.f6.params.toList).all (fun t => Try.prog.readableRec t && decide (t < Try.prog.types.size)) = true := by kernel_rfl

theorem contract (H : Type) (enc : TypeId × Value → H) (W : World) (base : Nat) (args : Array Value) (ds gs : List (DataW H)) (before : List MemPlace)
    (hval : ∀ (j : Nat) t v, Try.f6.params[j]? = some t → args[j]? = some v → Value.okWide Try.prog W .any base t v)
    (hW : DataW.Whole enc Try.prog Try.f6.params.toList Rows.coreOrderSpec.vars false W args.toList ds gs before) (hsz : (DataW.weightsEach Try.prog (Try.f6.params.toList ++ (OpenSpec.ofChange Rows.coreOrderSpec).bare.plain.varTypes Try.prog) (ds ++ gs)).all (· ≤ reachBytes) = true) (hL : laidMetH Try.prog Rows.coreOrderRow.laid W) :
    Calls Try.prog 6 args W fun e W' => ∃ v, e = .returned v ∧ Rows.coreOrderSpec.post enc Try.prog Try.f6 false true false false W args v W' := by
  have hW' := hW
  obtain ⟨p, q, hA0, hV, rfl, hfz, hnd⟩ := hW
  have hA : DataW.TrodAll enc Try.prog W 0 (fun _ => true) true Try.f6.params.toList args.toList ds p := hA0
  rw [Try.params6] at hA hval hsz
  obtain ⟨v0, vs0, d0, ds0, p0, q0, hargs, rfl, rfl, h0, t0⟩ := trodAll_cons hA
  obtain ⟨v1, vs1, d1, ds1, p1, q1, rfl, rfl, rfl, h1, t1⟩ := trodAll_cons t0
  obtain ⟨v2, vs2, d2, ds2, p2, q2, rfl, rfl, rfl, h2, t2⟩ := trodAll_cons t1
  obtain ⟨rfl, rfl, rfl⟩ := trodAll_nil t2
  obtain rfl : args = #[v0, v1, v2] := by cases args; simp_all
  clear hA0
  have hGl : Ev.Gl Ev.Cx.T.gl (fun _ => False) W := fun g xs hg => by cases hg
  obtain ⟨a0, f0, r0⟩ := open_one 8 (show flatS Try.prog 8 33 = some [.sl [.sc (.int .u8), .sc (.int .u8), .sc (.int .u8), .sc .bool, .sc (.int .u8), .sc .bool, .sc (.int .u8), .sc (.int .u8), .sc (.int .u8), .sc (.int .u8)]] by kernel_rfl) (notAgg (hval 0 33 v0 rfl rfl) (by kernel_rfl)) h0 (fun k hk => by simpa using List.all_eq_true.1 hsz k (DataW.weights_mem_each (j := 0) (t := 33) rfl rfl k hk))
  obtain ⟨a1, f1, r1⟩ := open_one 8 (show flatS Try.prog 8 3 = some [.sc (.int .i64)] by kernel_rfl) (notAgg (hval 1 3 v1 rfl rfl) (by kernel_rfl)) h1 (fun k hk => by simpa using List.all_eq_true.1 hsz k (DataW.weights_mem_each (j := 1) (t := 3) rfl rfl k hk))
  obtain ⟨a2, f2, r2⟩ := open_one 8 (show flatS Try.prog 8 44 = some [.sl [.sc .bool]] by kernel_rfl) (notAgg (hval 2 44 v2 rfl rfl) (by kernel_rfl)) h2 (fun k hk => by simpa using List.all_eq_true.1 hsz k (DataW.weights_mem_each (j := 2) (t := 44) rfl rfl k hk))
  obtain ⟨l, rfl, l1, l2⟩ := open_ins f0
  obtain ⟨x, rfl, x1, x2⟩ := sh_i64 f1
  obtain ⟨D, rfl, D1⟩ := open_bools f2
  refine ((Ev.CoreOrder_ev l l1 l2 x x1 x2 D D1).calls Ev.CxOk W _ hGl (Ev.RL.cons r0 (Ev.RL.cons r1 (Ev.RL.cons r2 Ev.RL.nil)))).mono ?_
  rintro e W' ⟨v, rfl, hb, hv⟩
  rw [Ev.R] at hv
  subst hv
  exact ⟨_, rfl, law_post laidOut reads_all rfl rfl Try.underlying4 ⟨rfl, rfl, rfl⟩ hW' hb⟩

/-- A WORLD FOR THE WITNESS: the settled one, each listed variable holding what its initialiser lays. -/
noncomputable def laidWorld (os : Os) : World :=
  World.holding Try.prog os ⟨#[], #[], []⟩
theorem laid_met (os : Os) : laidMet Try.prog Rows.coreOrderRow.laid ((laidWorld os).forCall (fun _ _ => 0) ⟨#[], #[.slice none 0 0, .int .i64 0, .slice none 0 0], []⟩).memory :=
  laidMet_of_run' 8 (by kernel_rfl) (by kernel_rfl)
theorem reads (os : Os) {H : Type} (enc : TypeId × Value → H) : ∃ places, DataW.whole enc Try.prog ((laidWorld os).forCall (fun _ _ => 0) ⟨#[], #[.slice none 0 0, .int .i64 0, .slice none 0 0], []⟩).memory Try.f6.params.toList Rows.coreOrderSpec.vars false (#[.slice none 0 0, .int .i64 0, .slice none 0 0] : Array Value).toList 8 = some ([.nil, .lit (.int .i64 0), .nil], [], places) :=
  ⟨[], by kernel_rfl⟩

set_option maxRecDepth 100000 in
theorem lifted (os : Os) (started : os.Started) (H : Type) (enc : TypeId × Value → H) (F : Stop.Interp) :
    ReturnsInHanded {} Try.checked os 6 .any ((OpenSpec.ofChange Rows.coreOrderSpec).preRow enc Try.prog Try.f6 Rows.coreOrderRow.domain false Rows.coreOrderRow.laid) (((OpenSpec.ofChange Rows.coreOrderSpec).at F).post enc Try.prog Try.f6 false true false false) := by
  obtain ⟨places, hx⟩ := reads os enc
  refine returnsInHanded_of_row (C := Try.checked) (s := OpenSpec.ofChange Rows.coreOrderSpec) own started (by kernel_rfl) Try.func6
    (witness_row_at (enc := enc) (C := Try.checked) false (laidWorld os) #[.slice none 0 0, .int .i64 0, .slice none 0 0] rfl (by kernel_rfl) (by kernel_rfl) (by kernel_rfl)
      (OpenSpec.preRow_of_cond 8 hx (by kernel_rfl) (fun k hk => by cases hk) (by kernel_rfl) (laid_met os))) ?_
  intro W base args ds gs before hval hW _ _ hsz hL _ _
  exact contract H enc W base args ds gs before hval hW hsz hL

theorem said : Rows.CoreOrderSaid :=
  OpenClaim.holds_of_cond 6 Try.f6 rfl rfl rfl rfl rfl rfl rfl ⟨rfl, rfl, rfl, rfl, rfl⟩ rfl rfl rfl rfl rfl (by kernel_rfl) Try.func6 (by kernel_rfl)
    (of_decide_eq_true (by kernel_rfl)) (by unfold Func.isWrapper; first | (rw [if_pos (by decide +kernel)]; kernel_rfl) | (rw [if_neg (by decide +kernel)]; exact ⟨rfl, rfl⟩))
    (fun os started H enc _ F => by rw [OpenClaim.pre_eq_preRow]; exact lifted os started H enc F)

#print axioms said
end Go.Proofs.Ytkpolehpdgnliaa.coreOrder
