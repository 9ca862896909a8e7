/-
  The law InvOrder, as its tied card states it: a consistent sequence stays so when it is cut or two neighbours at different locations change places, and what a location contains can be read. Conditions: the row's own.
-/
import Derived.Test.YtnhknhniemfnjaaGreatDoorCards
import Derived.Test.YtnhknhniemfnjaaGreatDoorTie
import Derived.Test.YtnhknhniemfnjaaGreatDoorI4
set_option linter.unusedSimpArgs false
set_option linter.unusedVariables false
namespace Go.Proofs.YtnhknhniemfnjaaGreatDoor.invOrder
open Go Go.ChangeShapes Go.WideShapes Go.ChangeAt Go.RowKit Go.Proofs.YtnhknhniemfnjaaGreatDoor

theorem own : ownKnob Tryz.prog.godebug = none := by kernel_rfl
theorem laidOut : laidOutB Tryz.prog = true := by kernel_rfl
theorem reads_all : (Tryz.f4.params.toList).all (fun t => Tryz.prog.readableRec t && decide (t < Tryz.prog.types.size)) = true := by kernel_rfl

set_option maxRecDepth 100000 in
theorem contract (H : Type) (enc : TypeId × Value → H) (W : World) (base : Nat) (args : Array Value) (ds gs : List (DataW H)) (before : List MemPlace)
    (hval : ∀ (j : Nat) t v, Tryz.f4.params[j]? = some t → args[j]? = some v → Value.okWide Tryz.prog W .any base t v)
    (hW : DataW.Whole enc Tryz.prog Tryz.f4.params.toList Rows.invOrderSpec.vars false W args.toList ds gs before) (hsz : (DataW.weightsEach Tryz.prog (Tryz.f4.params.toList ++ (OpenSpec.ofChange Rows.invOrderSpec).bare.plain.varTypes Tryz.prog) (ds ++ gs)).all (· ≤ reachBytes) = true) (hL : laidMetH Tryz.prog Rows.invOrderRow.laid W) :
    Calls Tryz.prog 4 args W fun e W' => ∃ v, e = .returned v ∧ Rows.invOrderSpec.post enc Tryz.prog Tryz.f4 false true false false W args v W' := by
  have hW' := hW
  obtain ⟨p, q, hA0, hV, rfl, hfz, hnd⟩ := hW
  have hA : DataW.TrodAll enc Tryz.prog W 0 (fun _ => true) true Tryz.f4.params.toList args.toList ds p := hA0
  rw [Tryz.params4] at hA hval hsz
  obtain ⟨v0, vs0, d0, ds0, p0, q0, hargs, rfl, rfl, h0, t0⟩ := trodAll_cons hA
  obtain ⟨v1, vs1, d1, ds1, p1, q1, rfl, rfl, rfl, h1, t1⟩ := trodAll_cons t0
  obtain ⟨v2, vs2, d2, ds2, p2, q2, rfl, rfl, rfl, h2, t2⟩ := trodAll_cons t1
  obtain ⟨rfl, rfl, rfl⟩ := trodAll_nil t2
  obtain rfl : args = #[v0, v1, v2] := by cases args; simp_all
  clear hA0
  have hGl : Ev.Gl Ev.CO.T.gl (fun _ => False) W := gl_of_laid (by kernel_rfl) hL (by kernel_rfl)
  obtain ⟨a0, f0, r0⟩ := open_aggO 12 worldSh_eq (okWide_struct Tryz.underlying44 (hval 0 44 v0 rfl rfl)) h0 (fun k hk => by simpa using List.all_eq_true.1 hsz k (DataW.weights_mem_each (j := 0) (t := 44) rfl rfl k hk))
  obtain ⟨a1, f1, r1⟩ := open_one 8 (show flatS Tryz.prog 8 45 = some [.sl [.sc (.int .u8), .sc (.int .u8), .sc (.int .u8), .sc (.int .u8), .sc (.int .u8), .sc (.int .u8), .sc (.int .u8)]] by kernel_rfl) (notAgg (hval 1 45 v1 rfl rfl) (by kernel_rfl)) h1 (fun k hk => by simpa using List.all_eq_true.1 hsz k (DataW.weights_mem_each (j := 1) (t := 45) rfl rfl k hk))
  obtain ⟨a2, f2, r2⟩ := open_one 8 (show flatS Tryz.prog 8 5 = some [.sc (.int .u8)] by kernel_rfl) (notAgg (hval 2 5 v2 rfl rfl) (by kernel_rfl)) h2 (fun k hk => by simpa using List.all_eq_true.1 hsz k (DataW.weights_mem_each (j := 2) (t := 5) rfl rfl k hk))
  obtain ⟨l, rfl, l1, l2⟩ := pf_open f1
  obtain ⟨x, rfl, x1, x2⟩ := sh_u8 f2
  refine ((Ev.InvOrder_ev f0 l l1 l2 x1 x2).calls Ev.CO_ok Ev.CO_B4 W _ hGl (Ev.RL.cons r0 (Ev.RL.cons r1 (Ev.RL.cons r2 Ev.RL.nil)))).mono ?_
  rintro e W' ⟨v, rfl, hb, hv⟩
  rw [Ev.R] at hv
  subst hv
  exact ⟨_, rfl, law_post laidOut reads_all rfl rfl Tryz.underlying4 ⟨rfl, rfl, rfl⟩ hW' hb⟩

/-- A listed variable, laid. -/
noncomputable def layCell (h : Array Obj) (y : String × DataW Unit) : Array Obj := h.modify ((Tryz.prog.globalNamed y.1).getD 0) fun
  | .cells _ t frozen => .cells (((((Tryz.prog.globalNamed y.1).bind fun g => (Tryz.prog.globals[g]?).map (·.type)).bind fun t => untrod Tryz.prog 8 t y.2).getD []).toArray) t frozen
  | o => o
/-- A WORLD FOR THE WITNESS: the settled one, each listed variable holding what its initialiser lays. -/
noncomputable def laidWorld (os : Os) : World :=
  { World.holding Tryz.prog os ⟨#[], #[], []⟩ with heap := Rows.invOrderRow.laid.foldl layCell (World.holding Tryz.prog os ⟨#[], #[], []⟩).heap }
set_option maxRecDepth 100000 in
theorem laid_met (os : Os) : laidMet Tryz.prog Rows.invOrderRow.laid ((laidWorld os).forCall (fun _ _ => 0) ⟨#[], #[.agg (([.string ⟨#[]⟩, .slice none 0 0, .slice none 0 0, .slice none 0 0, .int .u8 0, .int .u8 0, .int .u8 0, .int .u8 0, .int .u8 0, .slice none 0 0, .int .i64 0, .int .i64 0, .int .i64 0, .int .i64 0, .int .i64 0, .int .u8 0, .int .u8 0, .int .u8 0, .int .i64 0, .bool false, .string ⟨#[]⟩] : List Value) ++ (List.replicate 188 ([.int .u8 0, .int .u8 0, .int .u16 0] : List Value)).flatten).toArray, .slice none 0 0, .int .u8 0], []⟩).memory :=
  laidMet_of_run' 8 (by kernel_rfl) (by kernel_rfl)
set_option maxRecDepth 100000 in
theorem reads (os : Os) {H : Type} (enc : TypeId × Value → H) : ∃ places, DataW.whole enc Tryz.prog ((laidWorld os).forCall (fun _ _ => 0) ⟨#[], #[.agg (([.string ⟨#[]⟩, .slice none 0 0, .slice none 0 0, .slice none 0 0, .int .u8 0, .int .u8 0, .int .u8 0, .int .u8 0, .int .u8 0, .slice none 0 0, .int .i64 0, .int .i64 0, .int .i64 0, .int .i64 0, .int .i64 0, .int .u8 0, .int .u8 0, .int .u8 0, .int .i64 0, .bool false, .string ⟨#[]⟩] : List Value) ++ (List.replicate 188 ([.int .u8 0, .int .u8 0, .int .u16 0] : List Value)).flatten).toArray, .slice none 0 0, .int .u8 0], []⟩).memory Tryz.f4.params.toList Rows.invOrderSpec.vars false (#[.agg (([.string ⟨#[]⟩, .slice none 0 0, .slice none 0 0, .slice none 0 0, .int .u8 0, .int .u8 0, .int .u8 0, .int .u8 0, .int .u8 0, .slice none 0 0, .int .i64 0, .int .i64 0, .int .i64 0, .int .i64 0, .int .i64 0, .int .u8 0, .int .u8 0, .int .u8 0, .int .i64 0, .bool false, .string ⟨#[]⟩] : List Value) ++ (List.replicate 188 ([.int .u8 0, .int .u8 0, .int .u16 0] : List Value)).flatten).toArray, .slice none 0 0, .int .u8 0] : Array Value).toList 8 = some ([.agg [.agg [.lit (.string []), .nil, .nil, .nil, .lit (.int .u8 0), .agg [.lit (.int .u8 0), .lit (.int .u8 0), .lit (.int .u8 0), .lit (.int .u8 0), .nil]], .agg [.lit (.int .i64 0), .lit (.int .i64 0), .lit (.int .i64 0), .lit (.int .i64 0), .lit (.int .i64 0)], .agg [.lit (.int .u8 0), .lit (.int .u8 0), .lit (.int .u8 0), .lit (.int .i64 0), .lit (.bool false)], .agg [.lit (.string []), .agg (List.replicate 12 (.agg (List.replicate 14 (.agg [.lit (.int .u8 0), .lit (.int .u8 0), .lit (.int .u16 0)])))), .agg (List.replicate 4 (.agg (List.replicate 5 (.agg [.lit (.int .u8 0), .lit (.int .u8 0), .lit (.int .u16 0)]))))]], .nil, .lit (.int .u8 0)], [], places) :=
  ⟨[], by kernel_rfl⟩

set_option maxRecDepth 100000 in
theorem lifted (os : Os) (started : os.Started) (H : Type) (enc : TypeId × Value → H) (F : Stop.Interp) :
    ReturnsInHanded {} Tryz.checked os 4 .any ((OpenSpec.ofChange Rows.invOrderSpec).preRow enc Tryz.prog Tryz.f4 Rows.invOrderRow.domain false Rows.invOrderRow.laid) (((OpenSpec.ofChange Rows.invOrderSpec).at F).post enc Tryz.prog Tryz.f4 false true false false) := by
  obtain ⟨places, hx⟩ := reads os enc
  refine returnsInHanded_of_row (C := Tryz.checked) (s := OpenSpec.ofChange Rows.invOrderSpec) own started (by kernel_rfl) Tryz.func4
    (witness_row_at (enc := enc) (C := Tryz.checked) false (laidWorld os) #[.agg (([.string ⟨#[]⟩, .slice none 0 0, .slice none 0 0, .slice none 0 0, .int .u8 0, .int .u8 0, .int .u8 0, .int .u8 0, .int .u8 0, .slice none 0 0, .int .i64 0, .int .i64 0, .int .i64 0, .int .i64 0, .int .i64 0, .int .u8 0, .int .u8 0, .int .u8 0, .int .i64 0, .bool false, .string ⟨#[]⟩] : List Value) ++ (List.replicate 188 ([.int .u8 0, .int .u8 0, .int .u16 0] : List Value)).flatten).toArray, .slice none 0 0, .int .u8 0] rfl (by kernel_rfl) (by kernel_rfl) (by kernel_rfl)
      (OpenSpec.preRow_of_cond 8 hx (by kernel_rfl) (fun k hk => by cases hk) (by kernel_rfl) (laid_met os))) ?_
  intro W base args ds gs before hval hW _ _ hsz hL _ _
  exact contract H enc W base args ds gs before hval hW hsz hL

theorem said : Rows.InvOrderSaid :=
  OpenClaim.holds_of_cond 4 Tryz.f4 rfl rfl rfl rfl rfl rfl rfl ⟨rfl, rfl, rfl, rfl, rfl⟩ rfl rfl rfl rfl rfl (by kernel_rfl) Tryz.func4 (by kernel_rfl)
    (of_decide_eq_true (by kernel_rfl)) (by unfold Func.isWrapper; first | (rw [if_pos (by decide +kernel)]; kernel_rfl) | (rw [if_neg (by decide +kernel)]; exact ⟨rfl, rfl⟩))
    (fun os started H enc _ F => by rw [OpenClaim.pre_eq_preRow]; exact lifted os started H enc F)

theorem plain (f : FuncId) (fn : Func) (hf : Tryz.pinned.checked.prog.funcNamed "seisin/seisinlaw32.InvOrder" = some f) (hfn : Tryz.pinned.checked.prog.funcs[f]? = some fn) :
    false = Tryz.pinned.checked.prog.looks [] ∧ ∀ (j : Nat) t, fn.params[j]? = some t → Tryz.pinned.checked.prog.wantsStandIn t = false := by
  obtain rfl : f = 4 := Option.some.inj ((show Tryz.prog.funcNamed "seisin/seisinlaw32.InvOrder" = some 4 by kernel_rfl).symm.trans hf) |>.symm
  obtain rfl : fn = Tryz.f4 := (Option.some.inj (Tryz.func4.symm.trans hfn)).symm
  refine ⟨by kernel_rfl, fun j t ht => ?_⟩
  have hall : (Tryz.f4.params.toList).all (fun t => !Tryz.prog.wantsStandIn t) = true := by kernel_rfl
  have := List.all_eq_true.1 hall t (Array.mem_toList_iff.2 (Array.mem_of_getElem? ht))
  exact (by simpa using this : Tryz.prog.wantsStandIn t = false)

theorem card : Rows.InvOrderCardSaid :=
  Claim7.holds_tied_plain_at .later [] _ _ _ _ said (fun _ h => by cases h) (by kernel_rfl) (fun _ h => by cases h) invOrder_row_tie rfl ⟨rfl, rfl⟩ (by kernel_rfl) rfl plain (by kernel_rfl)
#print axioms card
end Go.Proofs.YtnhknhniemfnjaaGreatDoor.invOrder
