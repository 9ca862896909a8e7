/- Closed calls, step by step: the book of a protocol. Printed by genM.py. -/
import Derived.Test.YtnhknhniemfnjaaGreatDoorM6
import Derived.Test.YtnhknhniemfnjaaGreatDoorF9
set_option linter.unusedSimpArgs false
set_option linter.unusedVariables false
namespace Go.Proofs.YtnhknhniemfnjaaGreatDoor.Ev
open Go Go.RowKit
set_option maxRecDepth 1000000
def big68 : A := (.tup [(.agg [sA #[109, 101, 115, 105], i8 1, i8 5, (.v (.int .u16 2)), i8 1, i8 6, (.v (.int .u16 4)), i8 3, i8 0, (.v (.int .u16 0)), i8 3, i8 0, (.v (.int .u16 0)), i8 3, i8 0, (.v (.int .u16 0)), i8 1, i8 0, (.v (.int .u16 64)), i8 3, i8 0, (.v (.int .u16 0)), i8 3, i8 0, (.v (.int .u16 0)), i8 3, i8 0, (.v (.int .u16 0)), i8 3, i8 0, (.v (.int .u16 0)), i8 3, i8 0, (.v (.int .u16 0)), i8 3, i8 0, (.v (.int .u16 0)), i8 3, i8 0, (.v (.int .u16 0)), i8 3, i8 0, (.v (.int .u16 0)), i8 1, i8 1, (.v (.int .u16 256)), i8 1, i8 7, (.v (.int .u16 4)), i8 1, i8 0, (.v (.int .u16 512)), i8 3, i8 0, (.v (.int .u16 0)), i8 3, i8 0, (.v (.int .u16 0)), i8 1, i8 0, (.v (.int .u16 576)), i8 3, i8 0, (.v (.int .u16 0)), i8 3, i8 0, (.v (.int .u16 0)), i8 3, i8 0, (.v (.int .u16 0)), i8 3, i8 0, (.v (.int .u16 0)), i8 3, i8 0, (.v (.int .u16 0)), i8 3, i8 0, (.v (.int .u16 0)), i8 3, i8 0, (.v (.int .u16 0)), i8 3, i8 0, (.v (.int .u16 0)), i8 1, i8 2, (.v (.int .u16 256)), i8 1, i8 4, (.v (.int .u16 256)), i8 1, i8 10, (.v (.int .u16 8)), i8 1, i8 1, (.v (.int .u16 48)), i8 1, i8 0, (.v (.int .u16 528)), i8 3, i8 0, (.v (.int .u16 0)), i8 3, i8 0, (.v (.int .u16 0)), i8 3, i8 0, (.v (.int .u16 0)), i8 3, i8 0, (.v (.int .u16 0)), i8 3, i8 0, (.v (.int .u16 0)), i8 3, i8 0, (.v (.int .u16 0)), i8 3, i8 0, (.v (.int .u16 0)), i8 3, i8 0, (.v (.int .u16 0)), i8 3, i8 0, (.v (.int .u16 0)), i8 3, i8 0, (.v (.int .u16 0)), i8 3, i8 0, (.v (.int .u16 0)), i8 3, i8 0, (.v (.int .u16 0)), i8 3, i8 0, (.v (.int .u16 0)), i8 3, i8 0, (.v (.int .u16 0)), i8 3, i8 0, (.v (.int .u16 0)), i8 3, i8 0, (.v (.int .u16 0)), i8 3, i8 0, (.v (.int .u16 0)), i8 3, i8 0, (.v (.int .u16 0)), i8 3, i8 0, (.v (.int .u16 0)), i8 3, i8 0, (.v (.int .u16 0)), i8 3, i8 0, (.v (.int .u16 0)), i8 3, i8 0, (.v (.int .u16 0)), i8 3, i8 0, (.v (.int .u16 0)), i8 1, i8 4, (.v (.int .u16 256)), i8 1, i8 4, (.v (.int .u16 256)), i8 1, i8 10, (.v (.int .u16 8)), i8 1, i8 1, (.v (.int .u16 48)), i8 1, i8 0, (.v (.int .u16 528)), i8 3, i8 0, (.v (.int .u16 0)), i8 3, i8 0, (.v (.int .u16 0)), i8 3, i8 0, (.v (.int .u16 0)), i8 3, i8 0, (.v (.int .u16 0)), i8 3, i8 0, (.v (.int .u16 0)), i8 3, i8 0, (.v (.int .u16 0)), i8 3, i8 0, (.v (.int .u16 0)), i8 3, i8 0, (.v (.int .u16 0)), i8 3, i8 0, (.v (.int .u16 0)), i8 2, i8 0, (.v (.int .u16 0)), i8 2, i8 0, (.v (.int .u16 0)), i8 2, i8 0, (.v (.int .u16 0)), i8 3, i8 0, (.v (.int .u16 0)), i8 3, i8 0, (.v (.int .u16 0)), i8 1, i8 5, (.v (.int .u16 64)), i8 3, i8 0, (.v (.int .u16 0)), i8 1, i8 1, (.v (.int .u16 385)), i8 1, i8 2, (.v (.int .u16 385)), i8 3, i8 0, (.v (.int .u16 0)), i8 3, i8 0, (.v (.int .u16 0)), i8 3, i8 0, (.v (.int .u16 0)), i8 3, i8 0, (.v (.int .u16 0)), i8 3, i8 0, (.v (.int .u16 0)), i8 2, i8 0, (.v (.int .u16 0)), i8 2, i8 0, (.v (.int .u16 0)), i8 2, i8 0, (.v (.int .u16 0)), i8 3, i8 0, (.v (.int .u16 0)), i8 3, i8 0, (.v (.int .u16 0)), i8 1, i8 6, (.v (.int .u16 64)), i8 3, i8 0, (.v (.int .u16 0)), i8 1, i8 4, (.v (.int .u16 385)), i8 3, i8 0, (.v (.int .u16 0)), i8 1, i8 9, (.v (.int .u16 1)), i8 3, i8 0, (.v (.int .u16 0)), i8 3, i8 0, (.v (.int .u16 0)), i8 1, i8 6, (.v (.int .u16 0)), i8 3, i8 0, (.v (.int .u16 0)), i8 2, i8 0, (.v (.int .u16 0)), i8 2, i8 0, (.v (.int .u16 0)), i8 2, i8 0, (.v (.int .u16 0)), i8 3, i8 0, (.v (.int .u16 0)), i8 3, i8 0, (.v (.int .u16 0)), i8 1, i8 6, (.v (.int .u16 64)), i8 3, i8 0, (.v (.int .u16 0)), i8 1, i8 4, (.v (.int .u16 385)), i8 3, i8 0, (.v (.int .u16 0)), i8 1, i8 9, (.v (.int .u16 1)), i8 3, i8 0, (.v (.int .u16 0)), i8 3, i8 0, (.v (.int .u16 0)), i8 1, i8 7, (.v (.int .u16 0)), i8 3, i8 0, (.v (.int .u16 0)), i8 3, i8 0, (.v (.int .u16 0)), i8 3, i8 0, (.v (.int .u16 0)), i8 3, i8 0, (.v (.int .u16 0)), i8 3, i8 0, (.v (.int .u16 0)), i8 3, i8 0, (.v (.int .u16 0)), i8 3, i8 0, (.v (.int .u16 0)), i8 3, i8 0, (.v (.int .u16 0)), i8 3, i8 0, (.v (.int .u16 0)), i8 3, i8 0, (.v (.int .u16 0)), i8 3, i8 0, (.v (.int .u16 0)), i8 3, i8 0, (.v (.int .u16 0)), i8 3, i8 0, (.v (.int .u16 0)), i8 3, i8 0, (.v (.int .u16 0)), i8 3, i8 0, (.v (.int .u16 0)), i8 2, i8 0, (.v (.int .u16 0)), i8 2, i8 0, (.v (.int .u16 0)), i8 2, i8 0, (.v (.int .u16 0)), i8 3, i8 0, (.v (.int .u16 0)), i8 3, i8 0, (.v (.int .u16 0)), i8 3, i8 0, (.v (.int .u16 0)), i8 3, i8 0, (.v (.int .u16 0)), i8 3, i8 0, (.v (.int .u16 0)), i8 3, i8 0, (.v (.int .u16 0)), i8 3, i8 0, (.v (.int .u16 0)), i8 3, i8 0, (.v (.int .u16 0)), i8 3, i8 0, (.v (.int .u16 0)), i8 1, i8 9, (.v (.int .u16 0)), i8 1, i8 4, (.v (.int .u16 384)), i8 2, i8 0, (.v (.int .u16 0)), i8 2, i8 0, (.v (.int .u16 0)), i8 2, i8 0, (.v (.int .u16 0)), i8 1, i8 11, (.v (.int .u16 48)), i8 1, i8 11, (.v (.int .u16 16)), i8 1, i8 11, (.v (.int .u16 64)), i8 1, i8 0, (.v (.int .u16 512)), i8 3, i8 0, (.v (.int .u16 0)), i8 3, i8 0, (.v (.int .u16 0)), i8 3, i8 0, (.v (.int .u16 0)), i8 3, i8 0, (.v (.int .u16 0)), i8 3, i8 0, (.v (.int .u16 0)), i8 3, i8 0, (.v (.int .u16 0)), i8 3, i8 0, (.v (.int .u16 0)), i8 2, i8 0, (.v (.int .u16 0)), i8 2, i8 0, (.v (.int .u16 0)), i8 2, i8 0, (.v (.int .u16 0)), i8 3, i8 0, (.v (.int .u16 0)), i8 3, i8 0, (.v (.int .u16 0)), i8 1, i8 11, (.v (.int .u16 64)), i8 1, i8 0, (.v (.int .u16 512)), i8 3, i8 0, (.v (.int .u16 0)), i8 3, i8 0, (.v (.int .u16 0)), i8 3, i8 0, (.v (.int .u16 0)), i8 3, i8 0, (.v (.int .u16 0)), i8 3, i8 0, (.v (.int .u16 0)), i8 3, i8 0, (.v (.int .u16 0)), i8 3, i8 0, (.v (.int .u16 0)), i8 1, i8 2, (.v (.int .u16 10244)), i8 1, i8 2, (.v (.int .u16 10242)), i8 3, i8 0, (.v (.int .u16 0)), i8 3, i8 0, (.v (.int .u16 0)), i8 1, i8 0, (.v (.int .u16 128)), i8 1, i8 1, (.v (.int .u16 8706)), i8 1, i8 2, (.v (.int .u16 10499)), i8 3, i8 0, (.v (.int .u16 0)), i8 3, i8 0, (.v (.int .u16 0)), i8 1, i8 1, (.v (.int .u16 128)), i8 1, i8 1, (.v (.int .u16 26120)), i8 1, i8 2, (.v (.int .u16 10256)), i8 3, i8 0, (.v (.int .u16 0)), i8 1, i8 0, (.v (.int .u16 4288)), i8 1, i8 2, (.v (.int .u16 128)), i8 3, i8 0, (.v (.int .u16 0)), i8 3, i8 0, (.v (.int .u16 0)), i8 3, i8 0, (.v (.int .u16 0)), i8 3, i8 0, (.v (.int .u16 0)), i8 3, i8 0, (.v (.int .u16 0))]), i64 0])
def a38_0 : List A := [i8 2]
def r38_0 : A := big68
open Classical in
/-- What has been shown in another context. -/
noncomputable def XE (C : Ctx) (S : List Nat) (X : FuncId → List A → Option A) (f : FuncId) (l : List A) : Option A := if h : f ∈ S ∧ ∃ r, EvQ C f l r then some (Classical.choose h.2) else X f l
theorem XE_hit {C : Ctx} {S : List Nat} {X : FuncId → List A → Option A} {f : FuncId} {l : List A} {r : A} (hf : f ∈ S) (h : EvQ C f l r) : XE C S X f l = some r := by
  have hc : f ∈ S ∧ ∃ r, EvQ C f l r := ⟨hf, r, h⟩
  unfold XE
  rw [dif_pos hc]
  rw [h.one (Classical.choose_spec hc.2)]
theorem XE_miss {C : Ctx} {S : List Nat} {X : FuncId → List A → Option A} {f : FuncId} {l : List A} (hf : f ∉ S) : XE C S X f l = X f l := by
  unfold XE
  rw [dif_neg fun h => hf h.1]
theorem XE_ok {C : Ctx} {S : List Nat} {X : FuncId → List A → Option A} (hC : CtxOk Tryz.prog C) (hT : C.T = Cx.T) (hX : QOk Cx.T Tryz.prog X) : QOk Cx.T Tryz.prog (XE C S X) := by
  intro f l r h
  unfold XE at h
  split at h
  · rename_i hc
    obtain rfl := Option.some.inj h
    obtain ⟨N, hN⟩ := Classical.choose_spec hc.2
    have := (call_sound hC N).1 f l _ hN
    rw [hT] at this
    exact this
  · exact hX f l r h
theorem orE_ok {C : Ctx} {X : FuncId → List A → Option A} {f0 : Nat} {t : List (List A × A)} (hC : CtxOk Tryz.prog C) (hT : C.T = Cx.T) (ht : ∀ p ∈ t, EvQ C f0 p.1 p.2) (hX : QOk Cx.T Tryz.prog X) : QOk Cx.T Tryz.prog (orX f0 t X) := by
  intro f l r h
  unfold orX at h
  cases hb : Nat.beq f f0 with
  | false =>
    simp only [hb, cond_false] at h
    exact hX f l r h
  | true =>
    obtain rfl := Nat.eq_of_beq_eq_true hb
    simp only [hb, cond_true] at h
    obtain ⟨N, hN⟩ := ht _ (look1_mem h)
    have := (call_sound hC N).1 f l _ hN
    rw [hT] at this
    exact this
def wtM (i : Nat) : Bool := !(pH i) && Nat.ble (pO i) 2 && (Nat.beq (pS i) 5 || Nat.beq (pS i) 6 || Nat.beq (pS i) 7 || Nat.beq (pS i) 9 || Nat.beq (pS i) 10 || Nat.beq (pS i) 11)
theorem waits_all : ((List.range 188).all fun i => match (callsF Cx 1000).1 75 [i8 2, placeA i] with | some r => eqA r (bo (wtM i)) | none => false) = true := by kernel_rfl
theorem waits_ev (i : Nat) (hi : i < 188) : EvQ Cx 75 [i8 2, placeA i] (bo (wtM i)) := by
  have h := List.all_eq_true.1 waits_all i (List.mem_range.2 hi)
  split at h
  · rename_i r hr
    rw [eqA_eq _ _ h] at hr
    exact evQ_fast 1000 hr
  · cases h
theorem name_ev : EvQ Cx 70 [i8 2] (.v (.string ⟨#[109, 101, 115, 105]⟩)) := evQ_fast 1000 (by kernel_rfl)
def txtB : ByteArray := match big57 with | .v (.string s) => s | _ => ⟨#[]⟩
theorem txtB_eq : big57 = .v (.string txtB) := by rfl
theorem text_ev : EvQ Cx 72 [i8 2] (.v (.string txtB)) := evQ_fast 1000 (by kernel_rfl)
def c71 : List A := match r71_0 with | .tup (.agg l :: _) => l | _ => []
theorem r71_eq : r71_0 = .tup [.agg c71, i64 0, i64 0] := by rfl
def vs1 : List Value := match valsA c71 with | some v => v | none => []
theorem vs1_some : (valsA c71).isSome = true := by kernel_rfl
theorem vs1_ok : valsA c71 = some vs1 := by
  unfold vs1
  have h := vs1_some
  cases hv : valsA c71 with
  | none => rw [hv] at h; cases h
  | some v => rfl
theorem vs1_len : Nat.beq vs1.length 565 = true := by kernel_rfl
def decI : List A → List Nat
  | .v (.bool h) :: .v (.int _ s) :: .v (.int _ o) :: l => (match placeN h s o with | some i => i | none => 188) :: decI l
  | _ => []
def holesL : List Nat := match r109_0 with | .sl _ cs => decI cs | _ => []
theorem holes_eq : eqA r109_0 (.sl holesL.length (encI holesL)) = true := by kernel_rfl
theorem holes_lt : holesL.all (fun i => Nat.blt i 188) = true := by kernel_rfl
theorem holes_len : Nat.ble holesL.length 1000 = true := by kernel_rfl
noncomputable def XB : FuncId → List A → Option A := XE (CX X2) [71] (XE (CX X3) [109] (XE Cx [70, 72, 75, 110] fun _ _ => none))
theorem XB_ok : QOk Cx.T Tryz.prog XB := XE_ok (CX_ok X2_ok) rfl (XE_ok (CX_ok X3_ok) rfl (XE_ok CxOk rfl qOk_none))
theorem XB_cx {f : FuncId} {l : List A} {r : A} (hf : f ∈ [70, 72, 75, 110]) (h1 : f ∉ [71]) (h2 : f ∉ [109]) (h : EvQ Cx f l r) : EvQ (CA XB) f l r := evQ_ext (by
  show XB f l = some r
  unfold XB
  rw [XE_miss h1, XE_miss h2]
  exact XE_hit hf h)
theorem XB_none {f : FuncId} (h : f ∉ [71]) (h2 : f ∉ [109]) (h3 : f ∉ [70, 72, 75, 110]) : XB f = fun _ => none := by
  funext l
  unfold XB
  rw [XE_miss h, XE_miss h2, XE_miss h3]
theorem make_mesi : EvQ (CA XB) 38 [i8 2] (.tup [.agg ((fillM wtM holesL vs1).map .v), i64 0]) := by
  obtain ⟨hc, h1⟩ := valsA_ok vs1_ok
  have hv : vs1.length = 565 := Nat.eq_of_beq_eq_true vs1_len
  have h71 : EvQ (CA XB) 71 [.v (.string txtB)] (.tup [.agg (vs1.map .v), i64 0, i64 0]) := evQ_ext (by
    show XB 71 _ = _
    refine XE_hit (by simp) ?_
    have := q71_0
    rw [r71_eq, hc] at this
    exact this)
  have h109 : EvQ (CA XB) 109 [.agg (vs1.map .v)] (.sl holesL.length (encI holesL)) := evQ_ext (by
    show XB 109 _ = _
    unfold XB
    rw [XE_miss (by simp)]
    refine XE_hit (by simp) ?_
    have := q109_0
    rw [eqA_eq _ _ holes_eq] at this
    have ha : a109_0 = [.agg c71] := by rfl
    rw [ha, hc] at this
    exact this)
  exact make_ev (XB_none (by decide) (by decide) (by decide)) (XB_none (by decide) (by decide) (by decide)) (fun i hi => XB_cx (by decide) (by decide) (by decide) (waits_ev i hi))
    (fun vs i c1 c2 c3 a1 a2 a3 => XB_cx (by decide) (by decide) (by decide) (set_ev a1 a2 a3 c1 c2 c3)) (nm := ⟨#[109, 101, 115, 105]⟩) (by kernel_rfl) (XB_cx (by decide) (by decide) (by decide) name_ev) (XB_cx (by decide) (by decide) (by decide) text_ev) hv h1 h71
    (fun i hi => Nat.le_of_ble_eq_true (List.all_eq_true.1 holes_lt i hi)) (by have := Nat.le_of_ble_eq_true holes_len; omega) h109
theorem make_lit : eqA (.tup [.agg ((fillM wtM holesL vs1).map .v), i64 0]) r38_0 = true := by kernel_rfl
theorem q38_0 : EvQ (CA XB) 38 a38_0 r38_0 := by
  rw [← eqA_eq _ _ make_lit]
  exact make_mesi
def mt38 : List (List A × A) := [(a38_0, r38_0)]
theorem mt38_ok : ∀ p ∈ mt38, EvQ (CA XB) 38 p.1 p.2 := by
  unfold mt38
  simp only [List.forall_mem_cons, List.not_mem_nil, false_implies, implies_true, and_true]
  exact q38_0
def X5 : FuncId → List A → Option A := orX 38 mt38 (orX 76 mt76 (orX 17 mt17 X3))
theorem X5_ok : QOk Cx.T Tryz.prog X5 := orE_ok (CA_ok XB_ok) rfl mt38_ok (orX_ok X3_ok mt76_ok (orX_ok X3_ok mt17_ok X3_ok))
end Go.Proofs.YtnhknhniemfnjaaGreatDoor.Ev
