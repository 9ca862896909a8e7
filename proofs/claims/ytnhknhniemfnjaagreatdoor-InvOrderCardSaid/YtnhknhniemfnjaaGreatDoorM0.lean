/- Closed calls, step by step: what has been shown of some calls is known in the later ones. -/
import Derived.Test.YtnhknhniemfnjaaGreatDoorF4
import Derived.Test.YtnhknhniemfnjaaGreatDoorE31
set_option linter.unusedSimpArgs false
set_option linter.unusedVariables false
namespace Go.Proofs.YtnhknhniemfnjaaGreatDoor.Ev
open Go Go.RowKit
set_option maxRecDepth 100000
/-- The program, some calls known. -/
def CX (X : FuncId → List A → Option A) : Ctx := ⟨Cx.T, Cx.B, X, xOut⟩
theorem CX_ok {X : FuncId → List A → Option A} (h : QOk Cx.T Tryz.prog X) : CtxOk Tryz.prog (CX X) := ⟨CxOk.mixed, CxOk.types, CxOk.loops, CxOk.fns, h, xOut_ok⟩
def look1 : List (List A × A) → List A → Option A
  | [], _ => none
  | p :: l, zs => bif eqL p.1 zs then some p.2 else look1 l zs
theorem look1_mem : ∀ {l : List (List A × A)} {zs : List A} {r : A}, look1 l zs = some r → (zs, r) ∈ l
  | [], _, _, h => by cases h
  | p :: l, zs, r, h => by
    unfold look1 at h
    cases hb : eqL p.1 zs with
    | true =>
      simp only [hb, cond_true, Option.some.injEq] at h
      rw [← h, ← eqL_eq _ _ hb]
      exact .head _
    | false =>
      simp only [hb, cond_false] at h
      exact .tail _ (look1_mem h)
def orX (f0 : Nat) (t : List (List A × A)) (X : FuncId → List A → Option A) (f : FuncId) (zs : List A) : Option A := bif Nat.beq f f0 then look1 t zs else X f zs
theorem orX_ok {X0 X : FuncId → List A → Option A} {f0 : Nat} {t : List (List A × A)} (h0 : QOk Cx.T Tryz.prog X0) (ht : ∀ p ∈ t, EvQ (CX X0) f0 p.1 p.2) (hX : QOk Cx.T Tryz.prog X) : QOk Cx.T Tryz.prog (orX f0 t X) := by
  intro f zs r h
  unfold orX at h
  cases hb : Nat.beq f f0 with
  | false =>
    simp only [hb, cond_false] at h
    exact hX f zs r h
  | true =>
    obtain rfl := Nat.eq_of_beq_eq_true hb
    simp only [hb, cond_true] at h
    obtain ⟨N, hN⟩ := ht _ (look1_mem h)
    exact (call_sound (CX_ok h0) N).1 f zs r hN

/-! table.Set -/
def valsA : List A → Option (List Value)
  | [] => some []
  | .v x :: l => bif one (.v x) then match valsA l with
      | some vs => some (x :: vs)
      | none => none
    else none
  | _ :: _ => none
theorem valsA_ok : ∀ {l : List A} {vs : List Value}, valsA l = some vs → l = vs.map .v ∧ ones (vs.map .v) = true
  | [], vs, h => by
    simp only [valsA, Option.some.injEq] at h
    subst h
    exact ⟨rfl, rfl⟩
  | a :: l, vs, h => by
    cases a with
    | v x =>
      simp only [valsA] at h
      cases h1 : one (.v x) with
      | false => simp [h1] at h
      | true =>
        simp only [h1, cond_true] at h
        cases h2 : valsA l with
        | none => simp [h2] at h
        | some ws =>
          simp only [h2, Option.some.injEq] at h
          subst h
          obtain ⟨k1, k2⟩ := valsA_ok h2
          refine ⟨by rw [k1]; rfl, ?_⟩
          simp only [List.map_cons, ones, h1, k2, Bool.and_self]
    | _ => simp [valsA] at h
def placeN (h : Bool) (s o : Int) : Option Nat :=
  bif h then bif decide (0 ≤ s ∧ s < 4 ∧ 0 ≤ o ∧ o < 5) then some (168 + (5 * s.toNat + o.toNat)) else none
  else bif decide (0 ≤ s ∧ s < 12 ∧ 0 ≤ o ∧ o < 14) then some (14 * s.toNat + o.toNat) else none
theorem placeN_ok {h : Bool} {s o : Int} {i : Nat} (hp : placeN h s o = some i) : i < 188 ∧ placeA i = .agg [bo h, i8 s, i8 o] := by
  unfold placeN at hp
  cases h with
  | true =>
    simp only [cond_true] at hp
    by_cases hc : 0 ≤ s ∧ s < 4 ∧ 0 ≤ o ∧ o < 5
    · simp only [hc, decide_true, cond_true, Option.some.injEq, and_self] at hp
      subst hp
      obtain ⟨a, ha⟩ := Int.eq_ofNat_of_zero_le hc.1
      obtain ⟨b, hb⟩ := Int.eq_ofNat_of_zero_le hc.2.2.1
      subst ha
      subst hb
      refine ⟨by simp only [Int.toNat_natCast]; omega, ?_⟩
      simp only [Int.toNat_natCast]
      exact place_h (by omega)
    · simp [hc] at hp
  | false =>
    simp only [cond_false] at hp
    by_cases hc : 0 ≤ s ∧ s < 12 ∧ 0 ≤ o ∧ o < 14
    · simp only [hc, decide_true, cond_true, Option.some.injEq, and_self] at hp
      subst hp
      obtain ⟨a, ha⟩ := Int.eq_ofNat_of_zero_le hc.1
      obtain ⟨b, hb⟩ := Int.eq_ofNat_of_zero_le hc.2.2.1
      subst ha
      subst hb
      refine ⟨by simp only [Int.toNat_natCast]; omega, ?_⟩
      simp only [Int.toNat_natCast]
      exact place_c (by omega) (by omega)
    · simp [hc] at hp
def setX : List A → Option A
  | [.agg cs, .agg [.v (.bool h), .v (.int .u8 s), .v (.int .u8 o)], .agg [.v (.int .u8 c1), .v (.int .u8 c2), .v (.int .u16 c3)]] => match valsA cs, placeN h s o with
    | some vs, some i => bif Nat.beq vs.length 565 then some (.tup [.agg ((putC vs (1 + 3 * i) c1 c2 c3).map .v), i64 0]) else none
    | _, _ => none
  | _ => none
theorem setX_ok {zs : List A} {r : A} (h : setX zs = some r) : EvQ Cx 110 zs r := by
  unfold setX at h
  split at h
  · rename_i cs hm s o c1 c2 c3
    split at h
    · rename_i vs i hv hp
      cases hb : Nat.beq vs.length 565 with
      | false => simp [hb] at h
      | true =>
        simp only [hb, cond_true, Option.some.injEq] at h
        subst h
        obtain ⟨rfl, h1⟩ := valsA_ok hv
        obtain ⟨h2, h3⟩ := placeN_ok hp
        rw [← h3]
        exact set_ev (Nat.eq_of_beq_eq_true hb) h1 h2 c1 c2 c3
    · cases h
  · cases h
def X1 (f : FuncId) (zs : List A) : Option A := bif Nat.beq f 110 then setX zs else xLib f zs
theorem X1_ok : QOk Cx.T Tryz.prog X1 := by
  intro f zs r h
  unfold X1 at h
  cases hb : Nat.beq f 110 with
  | false =>
    simp only [hb, cond_false] at h
    exact xLib_ok f zs r h
  | true =>
    obtain rfl := Nat.eq_of_beq_eq_true hb
    simp only [hb, cond_true] at h
    obtain ⟨N, hN⟩ := setX_ok h
    exact (call_sound CxOk N).1 110 zs r hN
end Go.Proofs.YtnhknhniemfnjaaGreatDoor.Ev
