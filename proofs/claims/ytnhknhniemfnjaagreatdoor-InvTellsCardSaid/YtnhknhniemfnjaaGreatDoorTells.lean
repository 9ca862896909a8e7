/-
  The law InvTells, as its tied card states it: Shaped, the four invariants and Broken agree with the definitions, and the examples are told apart. Conditions: the row's own.
-/
import Derived.Test.YtnhknhniemfnjaaGreatDoorCards
import Derived.Test.YtnhknhniemfnjaaGreatDoorTie
import Derived.Test.YtnhknhniemfnjaaGreatDoorN6
set_option linter.unusedSimpArgs false
set_option linter.unusedVariables false
namespace Go.Proofs.YtnhknhniemfnjaaGreatDoor.invTells
open Go Go.ChangeShapes Go.WideShapes Go.ChangeAt Go.RowKit Go.Proofs.YtnhknhniemfnjaaGreatDoor

theorem own : ownKnob Tryz.prog.godebug = none := by kernel_rfl
theorem laidOut : laidOutB Tryz.prog = true := by kernel_rfl
theorem reads_all : (Tryz.f5.params.toList).all (fun t => Tryz.prog.readableRec t && decide (t < Tryz.prog.types.size)) = true := by kernel_rfl

set_option maxRecDepth 100000 in
theorem contract (H : Type) (enc : TypeId × Value → H) (W : World) (base : Nat) (args : Array Value) (ds gs : List (DataW H)) (before : List MemPlace)
    (hval : ∀ (j : Nat) t v, Tryz.f5.params[j]? = some t → args[j]? = some v → Value.okWide Tryz.prog W .any base t v)
    (hW : DataW.Whole enc Tryz.prog Tryz.f5.params.toList Rows.invTellsSpec.vars false W args.toList ds gs before) (hsz : (DataW.weightsEach Tryz.prog (Tryz.f5.params.toList ++ (OpenSpec.ofChange Rows.invTellsSpec).bare.plain.varTypes Tryz.prog) (ds ++ gs)).all (· ≤ reachBytes) = true) (hL : laidMetH Tryz.prog Rows.invTellsRow.laid W) :
    Calls Tryz.prog 5 args W fun e W' => ∃ v, e = .returned v ∧ Rows.invTellsSpec.post enc Tryz.prog Tryz.f5 false true false false W args v W' := by
  have hW' := hW
  obtain ⟨p, q, hA0, hV, rfl, hfz, hnd⟩ := hW
  have hA : DataW.TrodAll enc Tryz.prog W 0 (fun _ => true) true Tryz.f5.params.toList args.toList ds p := hA0
  rw [Tryz.params5] at hA hval hsz
  obtain ⟨v0, vs0, d0, ds0, p0, q0, hargs, rfl, rfl, h0, t0⟩ := trodAll_cons hA
  obtain ⟨v1, vs1, d1, ds1, p1, q1, rfl, rfl, rfl, h1, t1⟩ := trodAll_cons t0
  obtain ⟨rfl, rfl, rfl⟩ := trodAll_nil t1
  obtain rfl : args = #[v0, v1] := by cases args; simp_all
  clear hA0
  have hGl : Ev.Gl Ev.CT.T.gl (fun _ => False) W := gl_of_laid (by kernel_rfl) hL (by kernel_rfl)
  obtain ⟨a0, f0, r0⟩ := open_aggO 12 worldShT_eq (okWide_struct Tryz.underlying44 (hval 0 44 v0 rfl rfl)) h0 (fun k hk => by simpa using List.all_eq_true.1 hsz k (DataW.weights_mem_each (j := 0) (t := 44) rfl rfl k hk))
  obtain ⟨a1, f1, r1⟩ := open_aggO 12 sysSh_eq (okWide_struct Tryz.underlying69 (hval 1 69 v1 rfl rfl)) h1 (fun k hk => by simpa using List.all_eq_true.1 hsz k (DataW.weights_mem_each (j := 1) (t := 69) rfl rfl k hk))
  refine ((Ev.InvTells_ev f0 f1).calls Ev.CT_ok Ev.CT_B W _ hGl (Ev.RL.cons r0 (Ev.RL.cons r1 Ev.RL.nil))).mono ?_
  rintro e W' ⟨v, rfl, hb, hv⟩
  rw [Ev.R] at hv
  subst hv
  exact ⟨_, rfl, law_post laidOut reads_all rfl rfl Tryz.underlying4 ⟨rfl, rfl, rfl⟩ hW' hb⟩

/-- A listed variable, laid. -/
noncomputable def layCell (h : Array Obj) (y : String × DataW Unit) : Array Obj := h.modify ((Tryz.prog.globalNamed y.1).getD 0) fun
  | .cells _ t frozen => .cells (((((Tryz.prog.globalNamed y.1).bind fun g => (Tryz.prog.globals[g]?).map (·.type)).bind fun t => untrod Tryz.prog 8 t y.2).getD []).toArray) t frozen
  | o => o
/-- A WORLD FOR THE WITNESS: the settled one, each listed variable holding what its initialiser lays. -/
noncomputable def laidWorld (os : Os) : World :=
  { World.holding Tryz.prog os ⟨#[], #[], []⟩ with heap := Rows.invTellsRow.laid.foldl layCell (World.holding Tryz.prog os ⟨#[], #[], []⟩).heap }
set_option maxRecDepth 100000 in
theorem laid_met (os : Os) : laidMet Tryz.prog Rows.invTellsRow.laid ((laidWorld os).forCall (fun _ _ => 0) ⟨#[], #[.agg (([.string ⟨#[]⟩, .slice none 0 0, .slice none 0 0, .slice none 0 0, .int .u8 0, .int .u8 0, .int .u8 0, .int .u8 0, .int .u8 0, .slice none 0 0, .int .i64 0, .int .i64 0, .int .i64 0, .int .i64 0, .int .i64 0, .int .u8 0, .int .u8 0, .int .u8 0, .int .i64 0, .bool false, .string ⟨#[]⟩] : List Value) ++ (List.replicate 188 ([.int .u8 0, .int .u8 0, .int .u16 0] : List Value)).flatten).toArray, .agg (([.slice none 0 0, .slice none 0 0] : List Value) ++ (List.replicate 6 ([.int .u8 0, .int .u8 0, .int .u8 0, .int .u64 0, .bool false, .int .u8 0, .int .u8 0, .int .u8 0, .int .u8 0, .int .u8 0, .int .u8 0] : List Value)).flatten ++ ([.slice none 0 0] : List Value)).toArray], []⟩).memory :=
  laidMet_of_run' 8 (by kernel_rfl) (by kernel_rfl)
set_option maxRecDepth 100000 in
theorem reads (os : Os) {H : Type} (enc : TypeId × Value → H) : ∃ places, DataW.whole enc Tryz.prog ((laidWorld os).forCall (fun _ _ => 0) ⟨#[], #[.agg (([.string ⟨#[]⟩, .slice none 0 0, .slice none 0 0, .slice none 0 0, .int .u8 0, .int .u8 0, .int .u8 0, .int .u8 0, .int .u8 0, .slice none 0 0, .int .i64 0, .int .i64 0, .int .i64 0, .int .i64 0, .int .i64 0, .int .u8 0, .int .u8 0, .int .u8 0, .int .i64 0, .bool false, .string ⟨#[]⟩] : List Value) ++ (List.replicate 188 ([.int .u8 0, .int .u8 0, .int .u16 0] : List Value)).flatten).toArray, .agg (([.slice none 0 0, .slice none 0 0] : List Value) ++ (List.replicate 6 ([.int .u8 0, .int .u8 0, .int .u8 0, .int .u64 0, .bool false, .int .u8 0, .int .u8 0, .int .u8 0, .int .u8 0, .int .u8 0, .int .u8 0] : List Value)).flatten ++ ([.slice none 0 0] : List Value)).toArray], []⟩).memory Tryz.f5.params.toList Rows.invTellsSpec.vars false (#[.agg (([.string ⟨#[]⟩, .slice none 0 0, .slice none 0 0, .slice none 0 0, .int .u8 0, .int .u8 0, .int .u8 0, .int .u8 0, .int .u8 0, .slice none 0 0, .int .i64 0, .int .i64 0, .int .i64 0, .int .i64 0, .int .i64 0, .int .u8 0, .int .u8 0, .int .u8 0, .int .i64 0, .bool false, .string ⟨#[]⟩] : List Value) ++ (List.replicate 188 ([.int .u8 0, .int .u8 0, .int .u16 0] : List Value)).flatten).toArray, .agg (([.slice none 0 0, .slice none 0 0] : List Value) ++ (List.replicate 6 ([.int .u8 0, .int .u8 0, .int .u8 0, .int .u64 0, .bool false, .int .u8 0, .int .u8 0, .int .u8 0, .int .u8 0, .int .u8 0, .int .u8 0] : List Value)).flatten ++ ([.slice none 0 0] : List Value)).toArray] : Array Value).toList 8 = some ([.agg [.agg [.lit (.string []), .nil, .nil, .nil, .lit (.int .u8 0), .agg [.lit (.int .u8 0), .lit (.int .u8 0), .lit (.int .u8 0), .lit (.int .u8 0), .nil]], .agg [.lit (.int .i64 0), .lit (.int .i64 0), .lit (.int .i64 0), .lit (.int .i64 0), .lit (.int .i64 0)], .agg [.lit (.int .u8 0), .lit (.int .u8 0), .lit (.int .u8 0), .lit (.int .i64 0), .lit (.bool false)], .agg [.lit (.string []), .agg (List.replicate 12 (.agg (List.replicate 14 (.agg [.lit (.int .u8 0), .lit (.int .u8 0), .lit (.int .u16 0)])))), .agg (List.replicate 4 (.agg (List.replicate 5 (.agg [.lit (.int .u8 0), .lit (.int .u8 0), .lit (.int .u16 0)]))))]], .agg [.nil, .nil, .agg (List.replicate 6 (.agg [.lit (.int .u8 0), .lit (.int .u8 0), .agg [.lit (.int .u8 0), .lit (.int .u64 0), .lit (.bool false)], .lit (.int .u8 0), .lit (.int .u8 0), .agg [.lit (.int .u8 0), .lit (.int .u8 0), .lit (.int .u8 0), .lit (.int .u8 0)]])), .nil]], [], places) :=
  ⟨[], by kernel_rfl⟩

set_option maxRecDepth 100000 in
theorem lifted (os : Os) (started : os.Started) (H : Type) (enc : TypeId × Value → H) (F : Stop.Interp) :
    ReturnsInHanded {} Tryz.checked os 5 .any ((OpenSpec.ofChange Rows.invTellsSpec).preRow enc Tryz.prog Tryz.f5 Rows.invTellsRow.domain false Rows.invTellsRow.laid) (((OpenSpec.ofChange Rows.invTellsSpec).at F).post enc Tryz.prog Tryz.f5 false true false false) := by
  obtain ⟨places, hx⟩ := reads os enc
  refine returnsInHanded_of_row (C := Tryz.checked) (s := OpenSpec.ofChange Rows.invTellsSpec) own started (by kernel_rfl) Tryz.func5
    (witness_row_at (enc := enc) (C := Tryz.checked) false (laidWorld os) #[.agg (([.string ⟨#[]⟩, .slice none 0 0, .slice none 0 0, .slice none 0 0, .int .u8 0, .int .u8 0, .int .u8 0, .int .u8 0, .int .u8 0, .slice none 0 0, .int .i64 0, .int .i64 0, .int .i64 0, .int .i64 0, .int .i64 0, .int .u8 0, .int .u8 0, .int .u8 0, .int .i64 0, .bool false, .string ⟨#[]⟩] : List Value) ++ (List.replicate 188 ([.int .u8 0, .int .u8 0, .int .u16 0] : List Value)).flatten).toArray, .agg (([.slice none 0 0, .slice none 0 0] : List Value) ++ (List.replicate 6 ([.int .u8 0, .int .u8 0, .int .u8 0, .int .u64 0, .bool false, .int .u8 0, .int .u8 0, .int .u8 0, .int .u8 0, .int .u8 0, .int .u8 0] : List Value)).flatten ++ ([.slice none 0 0] : List Value)).toArray] rfl (by kernel_rfl) (by kernel_rfl) (by kernel_rfl)
      (OpenSpec.preRow_of_cond 8 hx (by kernel_rfl) (fun k hk => by cases hk) (by kernel_rfl) (laid_met os))) ?_
  intro W base args ds gs before hval hW _ _ hsz hL _ _
  exact contract H enc W base args ds gs before hval hW hsz hL

theorem said : Rows.InvTellsSaid :=
  OpenClaim.holds_of_cond 5 Tryz.f5 rfl rfl rfl rfl rfl rfl rfl ⟨rfl, rfl, rfl, rfl, rfl⟩ rfl rfl rfl rfl rfl (by kernel_rfl) Tryz.func5 (by kernel_rfl)
    (of_decide_eq_true (by kernel_rfl)) (by unfold Func.isWrapper; first | (rw [if_pos (by decide +kernel)]; kernel_rfl) | (rw [if_neg (by decide +kernel)]; exact ⟨rfl, rfl⟩))
    (fun os started H enc _ F => by rw [OpenClaim.pre_eq_preRow]; exact lifted os started H enc F)

theorem plain (f : FuncId) (fn : Func) (hf : Tryz.pinned.checked.prog.funcNamed "seisin/seisinlaw32.InvTells" = some f) (hfn : Tryz.pinned.checked.prog.funcs[f]? = some fn) :
    false = Tryz.pinned.checked.prog.looks [] ∧ ∀ (j : Nat) t, fn.params[j]? = some t → Tryz.pinned.checked.prog.wantsStandIn t = false := by
  obtain rfl : f = 5 := Option.some.inj ((show Tryz.prog.funcNamed "seisin/seisinlaw32.InvTells" = some 5 by kernel_rfl).symm.trans hf) |>.symm
  obtain rfl : fn = Tryz.f5 := (Option.some.inj (Tryz.func5.symm.trans hfn)).symm
  refine ⟨by kernel_rfl, fun j t ht => ?_⟩
  have hall : (Tryz.f5.params.toList).all (fun t => !Tryz.prog.wantsStandIn t) = true := by kernel_rfl
  have := List.all_eq_true.1 hall t (Array.mem_toList_iff.2 (Array.mem_of_getElem? ht))
  exact (by simpa using this : Tryz.prog.wantsStandIn t = false)

theorem card : Rows.InvTellsCardSaid :=
  Claim7.holds_tied_plain_at .later [] _ _ _ _ said (fun _ h => by cases h) (by kernel_rfl) (fun _ h => by cases h) invTells_row_tie rfl ⟨rfl, rfl⟩ (by kernel_rfl) rfl plain (by kernel_rfl)
#print axioms card
end Go.Proofs.YtnhknhniemfnjaaGreatDoor.invTells
