/- Closed calls, step by step: what has been shown of some calls is known in the later ones. -/
import Derived.Test.YtnhknhniemfnjaaGreatDoorFA
import Derived.Test.YtnhknhniemfnjaaGreatDoorK3
set_option linter.unusedSimpArgs false
set_option linter.unusedVariables false
namespace Go.Proofs.YtnhknhniemfnjaaGreatDoor.Ev
open Go Go.RowKit
abbrev uw (n : Int) : A := .v (.int .u16 n)
abbrev si (n : Int) : A := .v (.int .i8 n)
set_option maxRecDepth 100000
def CX (X : FuncId → List A → Option A) : Ctx := ⟨Cx.T, Cx.B, X, xOut⟩
theorem CX_ok {X : FuncId → List A → Option A} (h : QOk Cx.T Tryz.prog X) : CtxOk Tryz.prog (CX X) := ⟨CxOk.mixed, CxOk.types, CxOk.loops, CxOk.fns, h, xOut_ok⟩
def look1 : List (List A × A) → List A → Option A
  | [], _ => none
  | p :: l, zs => bif eqL p.1 zs then some p.2 else look1 l zs
theorem look1_mem : ∀ {l : List (List A × A)} {zs : List A} {r : A}, look1 l zs = some r → (zs, r) ∈ l
  | [], _, _, h => by cases h
  | p :: l, zs, r, h => by
    unfold look1 at h
    cases hb : eqL p.1 zs with
    | true =>
      simp only [hb, cond_true, Option.some.injEq] at h
      rw [← h, ← eqL_eq _ _ hb]
      exact .head _
    | false =>
      simp only [hb, cond_false] at h
      exact .tail _ (look1_mem h)
def orX (f0 : Nat) (t : List (List A × A)) (X : FuncId → List A → Option A) (f : FuncId) (zs : List A) : Option A := bif Nat.beq f f0 then look1 t zs else X f zs
theorem orX_ok {X0 X : FuncId → List A → Option A} {f0 : Nat} {t : List (List A × A)} (h0 : QOk Cx.T Tryz.prog X0) (ht : ∀ p ∈ t, EvQ (CX X0) f0 p.1 p.2) (hX : QOk Cx.T Tryz.prog X) : QOk Cx.T Tryz.prog (orX f0 t X) := by
  intro f zs r h
  unfold orX at h
  cases hb : Nat.beq f f0 with
  | false =>
    simp only [hb, cond_false] at h
    exact hX f zs r h
  | true =>
    obtain rfl := Nat.eq_of_beq_eq_true hb
    simp only [hb, cond_true] at h
    obtain ⟨N, hN⟩ := ht _ (look1_mem h)
    exact (call_sound (CX_ok h0) N).1 f zs r hN
/-! table.Set -/
def valsA : List A → Option (List Value)
  | [] => some []
  | .v x :: l => bif one (.v x) then match valsA l with
      | some vs => some (x :: vs)
      | none => none
    else none
  | _ :: _ => none
theorem valsA_ok : ∀ {l : List A} {vs : List Value}, valsA l = some vs → l = vs.map .v ∧ ones (vs.map .v) = true
  | [], vs, h => by
    simp only [valsA, Option.some.injEq] at h
    subst h
    exact ⟨rfl, rfl⟩
  | a :: l, vs, h => by
    cases a with
    | v x =>
      simp only [valsA] at h
      cases h1 : one (.v x) with
      | false => simp [h1] at h
      | true =>
        simp only [h1, cond_true] at h
        cases h2 : valsA l with
        | none => simp [h2] at h
        | some ws =>
          simp only [h2, Option.some.injEq] at h
          subst h
          obtain ⟨k1, k2⟩ := valsA_ok h2
          refine ⟨by rw [k1]; rfl, ?_⟩
          simp only [List.map_cons, ones, h1, k2, Bool.and_self]
    | _ => simp [valsA] at h
def placeN (h : Bool) (s o : Int) : Option Nat :=
  bif h then bif decide (0 ≤ s ∧ s < 4 ∧ 0 ≤ o ∧ o < 5) then some (168 + (5 * s.toNat + o.toNat)) else none
  else bif decide (0 ≤ s ∧ s < 12 ∧ 0 ≤ o ∧ o < 14) then some (14 * s.toNat + o.toNat) else none
theorem placeN_ok {h : Bool} {s o : Int} {i : Nat} (hp : placeN h s o = some i) : i < 188 ∧ placeA i = .agg [bo h, i8 s, i8 o] := by
  unfold placeN at hp
  cases h with
  | true =>
    simp only [cond_true] at hp
    by_cases hc : 0 ≤ s ∧ s < 4 ∧ 0 ≤ o ∧ o < 5
    · simp only [hc, decide_true, cond_true, Option.some.injEq, and_self] at hp
      subst hp
      obtain ⟨a, ha⟩ := Int.eq_ofNat_of_zero_le hc.1
      obtain ⟨b, hb⟩ := Int.eq_ofNat_of_zero_le hc.2.2.1
      subst ha
      subst hb
      refine ⟨by simp only [Int.toNat_natCast]; omega, ?_⟩
      simp only [Int.toNat_natCast]
      exact place_h (by omega)
    · simp [hc] at hp
  | false =>
    simp only [cond_false] at hp
    by_cases hc : 0 ≤ s ∧ s < 12 ∧ 0 ≤ o ∧ o < 14
    · simp only [hc, decide_true, cond_true, Option.some.injEq, and_self] at hp
      subst hp
      obtain ⟨a, ha⟩ := Int.eq_ofNat_of_zero_le hc.1
      obtain ⟨b, hb⟩ := Int.eq_ofNat_of_zero_le hc.2.2.1
      subst ha
      subst hb
      refine ⟨by simp only [Int.toNat_natCast]; omega, ?_⟩
      simp only [Int.toNat_natCast]
      exact place_c (by omega) (by omega)
    · simp [hc] at hp
def setX : List A → Option A
  | [.agg cs, .agg [.v (.bool h), .v (.int .u8 s), .v (.int .u8 o)], .agg [.v (.int .u8 c1), .v (.int .u8 c2), .v (.int .u16 c3)]] => match valsA cs, placeN h s o with
    | some vs, some i => bif Nat.beq vs.length 565 then some (.tup [.agg ((putC vs (1 + 3 * i) c1 c2 c3).map .v), i64 0]) else none
    | _, _ => none
  | _ => none
theorem setX_ok {zs : List A} {r : A} (h : setX zs = some r) : EvQ Cx 110 zs r := by
  unfold setX at h
  split at h
  · rename_i cs hm s o c1 c2 c3
    split at h
    · rename_i vs i hv hp
      cases hb : Nat.beq vs.length 565 with
      | false => simp [hb] at h
      | true =>
        simp only [hb, cond_true, Option.some.injEq] at h
        subst h
        obtain ⟨rfl, h1⟩ := valsA_ok hv
        obtain ⟨h2, h3⟩ := placeN_ok hp
        rw [← h3]
        exact set_ev (Nat.eq_of_beq_eq_true hb) h1 h2 c1 c2 c3
    · cases h
  · cases h
def X1 (f : FuncId) (zs : List A) : Option A := bif Nat.beq f 110 then setX zs else xLib f zs
theorem X1_ok : QOk Cx.T Tryz.prog X1 := by
  intro f zs r h
  unfold X1 at h
  cases hb : Nat.beq f 110 with
  | false =>
    simp only [hb, cond_false] at h
    exact xLib_ok f zs r h
  | true =>
    obtain rfl := Nat.eq_of_beq_eq_true hb
    simp only [hb, cond_true] at h
    obtain ⟨N, hN⟩ := setX_ok h
    exact (call_sound CxOk N).1 110 zs r hN
end Go.Proofs.YtnhknhniemfnjaaGreatDoor.Ev
namespace Go.Proofs.YtnhknhniemfnjaaGreatDoor.Ev
open Go Go.RowKit
set_option maxRecDepth 1000000
abbrev sA (l : Array UInt8) : A := .v (.string ⟨l⟩)
def a143_0 : List A := [sA #[116, 97, 98, 108, 101, 32, 109, 101, 115, 105], (.v (.func (.func 139) #[] #[]))]
def r143_0 : A := (.sl 2 [sA #[116, 97, 98, 108, 101], sA #[109, 101, 115, 105]])
theorem q143_0 : EvQ (CX X1) 143 a143_0 r143_0 := evQ_fast 100000 (by kernel_rfl)
def a143_1 : List A := [sA #[], (.v (.func (.func 139) #[] #[]))]
def r143_1 : A := (.sl 0 [])
theorem q143_1 : EvQ (CX X1) 143 a143_1 r143_1 := evQ_fast 100000 (by kernel_rfl)
def big0 : A := (.sl 7 [sA #[99, 97, 99, 104, 101], sA #[73], sA #[108, 111, 97, 100], sA #[45, 62], sA #[73, 83], sA #[58], sA #[97, 115, 107]])
def a143_2 : List A := [sA #[99, 97, 99, 104, 101, 32, 73, 32, 108, 111, 97, 100, 32, 45, 62, 32, 73, 83, 32, 58, 32, 97, 115, 107], (.v (.func (.func 139) #[] #[]))]
def r143_2 : A := big0
theorem q143_2 : EvQ (CX X1) 143 a143_2 r143_2 := evQ_fast 100000 (by kernel_rfl)
def big1 : A := (.sl 7 [sA #[99, 97, 99, 104, 101], sA #[73], sA #[115, 116, 111, 114, 101], sA #[45, 62], sA #[73, 77], sA #[58], sA #[97, 115, 107, 109]])
def a143_3 : List A := [sA #[99, 97, 99, 104, 101, 32, 73, 32, 115, 116, 111, 114, 101, 32, 45, 62, 32, 73, 77, 32, 58, 32, 97, 115, 107, 109], (.v (.func (.func 139) #[] #[]))]
def r143_3 : A := big1
theorem q143_3 : EvQ (CX X1) 143 a143_3 r143_3 := evQ_fast 100000 (by kernel_rfl)
def big2 : A := (.sl 7 [sA #[99, 97, 99, 104, 101], sA #[73], sA #[105, 110, 118], sA #[45, 62], sA #[73], sA #[58], sA #[105, 110, 118]])
def a143_4 : List A := [sA #[99, 97, 99, 104, 101, 32, 73, 32, 105, 110, 118, 32, 45, 62, 32, 73, 32, 58, 32, 105, 110, 118], (.v (.func (.func 139) #[] #[]))]
def r143_4 : A := big2
theorem q143_4 : EvQ (CX X1) 143 a143_4 r143_4 := evQ_fast 100000 (by kernel_rfl)
def big3 : A := (.sl 7 [sA #[99, 97, 99, 104, 101], sA #[83], sA #[108, 111, 97, 100], sA #[45, 62], sA #[83], sA #[58], sA #[100, 111]])
def a143_5 : List A := [sA #[99, 97, 99, 104, 101, 32, 83, 32, 108, 111, 97, 100, 32, 45, 62, 32, 83, 32, 58, 32, 100, 111], (.v (.func (.func 139) #[] #[]))]
def r143_5 : A := big3
theorem q143_5 : EvQ (CX X1) 143 a143_5 r143_5 := evQ_fast 100000 (by kernel_rfl)
def big4 : A := (.sl 7 [sA #[99, 97, 99, 104, 101], sA #[83], sA #[115, 116, 111, 114, 101], sA #[45, 62], sA #[83, 77], sA #[58], sA #[97, 115, 107, 109]])
def a143_6 : List A := [sA #[99, 97, 99, 104, 101, 32, 83, 32, 115, 116, 111, 114, 101, 32, 45, 62, 32, 83, 77, 32, 58, 32, 97, 115, 107, 109], (.v (.func (.func 139) #[] #[]))]
def r143_6 : A := big4
theorem q143_6 : EvQ (CX X1) 143 a143_6 r143_6 := evQ_fast 100000 (by kernel_rfl)
def big5 : A := (.sl 7 [sA #[99, 97, 99, 104, 101], sA #[83], sA #[101, 118, 105, 99, 116], sA #[45, 62], sA #[73], sA #[58], sA #[100, 114, 111, 112]])
def a143_7 : List A := [sA #[99, 97, 99, 104, 101, 32, 83, 32, 101, 118, 105, 99, 116, 32, 45, 62, 32, 73, 32, 58, 32, 100, 114, 111, 112], (.v (.func (.func 139) #[] #[]))]
def r143_7 : A := big5
theorem q143_7 : EvQ (CX X1) 143 a143_7 r143_7 := evQ_fast 100000 (by kernel_rfl)
def big6 : A := (.sl 8 [sA #[99, 97, 99, 104, 101], sA #[83], sA #[105, 110, 118], sA #[45, 62], sA #[73], sA #[58], sA #[105, 110, 118], sA #[100, 114, 111, 112]])
def a143_8 : List A := [sA #[99, 97, 99, 104, 101, 32, 83, 32, 105, 110, 118, 32, 45, 62, 32, 73, 32, 58, 32, 105, 110, 118, 32, 100, 114, 111, 112], (.v (.func (.func 139) #[] #[]))]
def r143_8 : A := big6
theorem q143_8 : EvQ (CX X1) 143 a143_8 r143_8 := evQ_fast 100000 (by kernel_rfl)
def big7 : A := (.sl 7 [sA #[99, 97, 99, 104, 101], sA #[77], sA #[108, 111, 97, 100], sA #[45, 62], sA #[77], sA #[58], sA #[100, 111]])
def a143_9 : List A := [sA #[99, 97, 99, 104, 101, 32, 77, 32, 108, 111, 97, 100, 32, 45, 62, 32, 77, 32, 58, 32, 100, 111], (.v (.func (.func 139) #[] #[]))]
def r143_9 : A := big7
theorem q143_9 : EvQ (CX X1) 143 a143_9 r143_9 := evQ_fast 100000 (by kernel_rfl)
def big8 : A := (.sl 7 [sA #[99, 97, 99, 104, 101], sA #[77], sA #[115, 116, 111, 114, 101], sA #[45, 62], sA #[77], sA #[58], sA #[100, 111]])
def a143_10 : List A := [sA #[99, 97, 99, 104, 101, 32, 77, 32, 115, 116, 111, 114, 101, 32, 45, 62, 32, 77, 32, 58, 32, 100, 111], (.v (.func (.func 139) #[] #[]))]
def r143_10 : A := big8
theorem q143_10 : EvQ (CX X1) 143 a143_10 r143_10 := evQ_fast 100000 (by kernel_rfl)
def big9 : A := (.sl 7 [sA #[99, 97, 99, 104, 101], sA #[77], sA #[101, 118, 105, 99, 116], sA #[45, 62], sA #[77, 73], sA #[58], sA #[112, 117, 116]])
def a143_11 : List A := [sA #[99, 97, 99, 104, 101, 32, 77, 32, 101, 118, 105, 99, 116, 32, 45, 62, 32, 77, 73, 32, 58, 32, 112, 117, 116], (.v (.func (.func 139) #[] #[]))]
def r143_11 : A := big9
theorem q143_11 : EvQ (CX X1) 143 a143_11 r143_11 := evQ_fast 100000 (by kernel_rfl)
def big10 : A := (.sl 8 [sA #[99, 97, 99, 104, 101], sA #[77], sA #[102, 119, 100, 109], sA #[45, 62], sA #[73], sA #[58], sA #[103, 105, 118, 101], sA #[100, 114, 111, 112]])
def a143_12 : List A := [sA #[99, 97, 99, 104, 101, 32, 77, 32, 102, 119, 100, 109, 32, 45, 62, 32, 73, 32, 58, 32, 103, 105, 118, 101, 32, 100, 114, 111, 112], (.v (.func (.func 139) #[] #[]))]
def r143_12 : A := big10
theorem q143_12 : EvQ (CX X1) 143 a143_12 r143_12 := evQ_fast 100000 (by kernel_rfl)
def big11 : A := (.sl 7 [sA #[99, 97, 99, 104, 101], sA #[73, 83], sA #[105, 110, 118], sA #[45, 62], sA #[73, 83], sA #[58], sA #[105, 110, 118]])
def a143_13 : List A := [sA #[99, 97, 99, 104, 101, 32, 73, 83, 32, 105, 110, 118, 32, 45, 62, 32, 73, 83, 32, 58, 32, 105, 110, 118], (.v (.func (.func 139) #[] #[]))]
def r143_13 : A := big11
theorem q143_13 : EvQ (CX X1) 143 a143_13 r143_13 := evQ_fast 100000 (by kernel_rfl)
def big12 : A := (.sl 9 [sA #[99, 97, 99, 104, 101], sA #[73, 83], sA #[118, 97, 108, 117, 101], sA #[45, 62], sA #[83], sA #[58], sA #[116, 97, 107, 101], sA #[100, 111, 110, 101], sA #[100, 111]])
def a143_14 : List A := [sA #[99, 97, 99, 104, 101, 32, 73, 83, 32, 118, 97, 108, 117, 101, 32, 45, 62, 32, 83, 32, 58, 32, 116, 97, 107, 101, 32, 100, 111, 110, 101, 32, 100, 111], (.v (.func (.func 139) #[] #[]))]
def r143_14 : A := big12
theorem q143_14 : EvQ (CX X1) 143 a143_14 r143_14 := evQ_fast 100000 (by kernel_rfl)
def big13 : A := (.sl 7 [sA #[99, 97, 99, 104, 101], sA #[73, 77], sA #[105, 110, 118], sA #[45, 62], sA #[73, 77], sA #[58], sA #[105, 110, 118]])
def a143_15 : List A := [sA #[99, 97, 99, 104, 101, 32, 73, 77, 32, 105, 110, 118, 32, 45, 62, 32, 73, 77, 32, 58, 32, 105, 110, 118], (.v (.func (.func 139) #[] #[]))]
def r143_15 : A := big13
theorem q143_15 : EvQ (CX X1) 143 a143_15 r143_15 := evQ_fast 100000 (by kernel_rfl)
def big14 : A := (.sl 9 [sA #[99, 97, 99, 104, 101], sA #[73, 77], sA #[118, 97, 108, 117, 101], sA #[45, 62], sA #[77], sA #[58], sA #[116, 97, 107, 101], sA #[100, 111, 110, 101], sA #[100, 111]])
def a143_16 : List A := [sA #[99, 97, 99, 104, 101, 32, 73, 77, 32, 118, 97, 108, 117, 101, 32, 45, 62, 32, 77, 32, 58, 32, 116, 97, 107, 101, 32, 100, 111, 110, 101, 32, 100, 111], (.v (.func (.func 139) #[] #[]))]
def r143_16 : A := big14
theorem q143_16 : EvQ (CX X1) 143 a143_16 r143_16 := evQ_fast 100000 (by kernel_rfl)
def big15 : A := (.sl 7 [sA #[99, 97, 99, 104, 101], sA #[73, 77], sA #[109, 111, 114, 101], sA #[45, 62], sA #[73, 65], sA #[58], sA #[116, 97, 107, 101]])
def a143_17 : List A := [sA #[99, 97, 99, 104, 101, 32, 73, 77, 32, 109, 111, 114, 101, 32, 45, 62, 32, 73, 65, 32, 58, 32, 116, 97, 107, 101], (.v (.func (.func 139) #[] #[]))]
def r143_17 : A := big15
theorem q143_17 : EvQ (CX X1) 143 a143_17 r143_17 := evQ_fast 100000 (by kernel_rfl)
def a143_18 : List A := [sA #[99, 97, 99, 104, 101, 32, 73, 77, 32, 97, 99, 107, 32, 45, 62, 32, 73, 77], (.v (.func (.func 139) #[] #[]))]
def r143_18 : A := (.sl 5 [sA #[99, 97, 99, 104, 101], sA #[73, 77], sA #[97, 99, 107], sA #[45, 62], sA #[73, 77]])
theorem q143_18 : EvQ (CX X1) 143 a143_18 r143_18 := evQ_fast 100000 (by kernel_rfl)
def big16 : A := (.sl 7 [sA #[99, 97, 99, 104, 101], sA #[83, 77], sA #[105, 110, 118], sA #[45, 62], sA #[73, 77], sA #[58], sA #[105, 110, 118]])
def a143_19 : List A := [sA #[99, 97, 99, 104, 101, 32, 83, 77, 32, 105, 110, 118, 32, 45, 62, 32, 73, 77, 32, 58, 32, 105, 110, 118], (.v (.func (.func 139) #[] #[]))]
def r143_19 : A := big16
theorem q143_19 : EvQ (CX X1) 143 a143_19 r143_19 := evQ_fast 100000 (by kernel_rfl)
def big17 : A := (.sl 9 [sA #[99, 97, 99, 104, 101], sA #[83, 77], sA #[118, 97, 108, 117, 101], sA #[45, 62], sA #[77], sA #[58], sA #[116, 97, 107, 101], sA #[100, 111, 110, 101], sA #[100, 111]])
def a143_20 : List A := [sA #[99, 97, 99, 104, 101, 32, 83, 77, 32, 118, 97, 108, 117, 101, 32, 45, 62, 32, 77, 32, 58, 32, 116, 97, 107, 101, 32, 100, 111, 110, 101, 32, 100, 111], (.v (.func (.func 139) #[] #[]))]
def r143_20 : A := big17
theorem q143_20 : EvQ (CX X1) 143 a143_20 r143_20 := evQ_fast 100000 (by kernel_rfl)
def big18 : A := (.sl 7 [sA #[99, 97, 99, 104, 101], sA #[83, 77], sA #[109, 111, 114, 101], sA #[45, 62], sA #[73, 65], sA #[58], sA #[116, 97, 107, 101]])
def a143_21 : List A := [sA #[99, 97, 99, 104, 101, 32, 83, 77, 32, 109, 111, 114, 101, 32, 45, 62, 32, 73, 65, 32, 58, 32, 116, 97, 107, 101], (.v (.func (.func 139) #[] #[]))]
def r143_21 : A := big18
theorem q143_21 : EvQ (CX X1) 143 a143_21 r143_21 := evQ_fast 100000 (by kernel_rfl)
def a143_22 : List A := [sA #[99, 97, 99, 104, 101, 32, 83, 77, 32, 97, 99, 107, 32, 45, 62, 32, 83, 77], (.v (.func (.func 139) #[] #[]))]
def r143_22 : A := (.sl 5 [sA #[99, 97, 99, 104, 101], sA #[83, 77], sA #[97, 99, 107], sA #[45, 62], sA #[83, 77]])
theorem q143_22 : EvQ (CX X1) 143 a143_22 r143_22 := evQ_fast 100000 (by kernel_rfl)
def a143_23 : List A := [sA #[99, 97, 99, 104, 101, 32, 73, 65, 32, 97, 99, 107, 32, 45, 62, 32, 73, 65], (.v (.func (.func 139) #[] #[]))]
def r143_23 : A := (.sl 5 [sA #[99, 97, 99, 104, 101], sA #[73, 65], sA #[97, 99, 107], sA #[45, 62], sA #[73, 65]])
theorem q143_23 : EvQ (CX X1) 143 a143_23 r143_23 := evQ_fast 100000 (by kernel_rfl)
end Go.Proofs.YtnhknhniemfnjaaGreatDoor.Ev
namespace Go.Proofs.YtnhknhniemfnjaaGreatDoor.Ev
open Go Go.RowKit
set_option maxRecDepth 1000000
def big19 : A := (.sl 8 [sA #[99, 97, 99, 104, 101], sA #[73, 65], sA #[108, 97, 115, 116], sA #[45, 62], sA #[77], sA #[58], sA #[100, 111, 110, 101], sA #[100, 111]])
def a143_24 : List A := [sA #[99, 97, 99, 104, 101, 32, 73, 65, 32, 108, 97, 115, 116, 32, 45, 62, 32, 77, 32, 58, 32, 100, 111, 110, 101, 32, 100, 111], (.v (.func (.func 139) #[] #[]))]
def r143_24 : A := big19
theorem q143_24 : EvQ (CX X1) 143 a143_24 r143_24 := evQ_fast 100000 (by kernel_rfl)
def big20 : A := (.sl 7 [sA #[99, 97, 99, 104, 101], sA #[77, 73], sA #[102, 119, 100, 109], sA #[45, 62], sA #[73, 73], sA #[58], sA #[103, 105, 118, 101]])
def a143_25 : List A := [sA #[99, 97, 99, 104, 101, 32, 77, 73, 32, 102, 119, 100, 109, 32, 45, 62, 32, 73, 73, 32, 58, 32, 103, 105, 118, 101], (.v (.func (.func 139) #[] #[]))]
def r143_25 : A := big20
theorem q143_25 : EvQ (CX X1) 143 a143_25 r143_25 := evQ_fast 100000 (by kernel_rfl)
def big21 : A := (.sl 7 [sA #[99, 97, 99, 104, 101], sA #[77, 73], sA #[105, 110, 118], sA #[45, 62], sA #[73, 73], sA #[58], sA #[105, 110, 118]])
def a143_26 : List A := [sA #[99, 97, 99, 104, 101, 32, 77, 73, 32, 105, 110, 118, 32, 45, 62, 32, 73, 73, 32, 58, 32, 105, 110, 118], (.v (.func (.func 139) #[] #[]))]
def r143_26 : A := big21
theorem q143_26 : EvQ (CX X1) 143 a143_26 r143_26 := evQ_fast 100000 (by kernel_rfl)
def big22 : A := (.sl 7 [sA #[99, 97, 99, 104, 101], sA #[77, 73], sA #[112, 117, 116], sA #[45, 62], sA #[73], sA #[58], sA #[100, 114, 111, 112]])
def a143_27 : List A := [sA #[99, 97, 99, 104, 101, 32, 77, 73, 32, 112, 117, 116, 32, 45, 62, 32, 73, 32, 58, 32, 100, 114, 111, 112], (.v (.func (.func 139) #[] #[]))]
def r143_27 : A := big22
theorem q143_27 : EvQ (CX X1) 143 a143_27 r143_27 := evQ_fast 100000 (by kernel_rfl)
def big23 : A := (.sl 7 [sA #[99, 97, 99, 104, 101], sA #[73, 73], sA #[105, 110, 118], sA #[45, 62], sA #[73, 73], sA #[58], sA #[105, 110, 118]])
def a143_28 : List A := [sA #[99, 97, 99, 104, 101, 32, 73, 73, 32, 105, 110, 118, 32, 45, 62, 32, 73, 73, 32, 58, 32, 105, 110, 118], (.v (.func (.func 139) #[] #[]))]
def r143_28 : A := big23
theorem q143_28 : EvQ (CX X1) 143 a143_28 r143_28 := evQ_fast 100000 (by kernel_rfl)
def big24 : A := (.sl 7 [sA #[99, 97, 99, 104, 101], sA #[73, 73], sA #[112, 117, 116], sA #[45, 62], sA #[73], sA #[58], sA #[100, 114, 111, 112]])
def a143_29 : List A := [sA #[99, 97, 99, 104, 101, 32, 73, 73, 32, 112, 117, 116, 32, 45, 62, 32, 73, 32, 58, 32, 100, 114, 111, 112], (.v (.func (.func 139) #[] #[]))]
def r143_29 : A := big24
theorem q143_29 : EvQ (CX X1) 143 a143_29 r143_29 := evQ_fast 100000 (by kernel_rfl)
def big25 : A := (.sl 9 [sA #[104, 111, 109, 101], sA #[85, 110], sA #[103, 101, 116, 109], sA #[45, 62], sA #[69, 120], sA #[58], sA #[109, 101, 109], sA #[111, 119, 110], sA #[98, 117, 115, 121]])
def a143_30 : List A := [sA #[104, 111, 109, 101, 32, 85, 110, 32, 103, 101, 116, 109, 32, 45, 62, 32, 69, 120, 32, 58, 32, 109, 101, 109, 32, 111, 119, 110, 32, 98, 117, 115, 121], (.v (.func (.func 139) #[] #[]))]
def r143_30 : A := big25
theorem q143_30 : EvQ (CX X1) 143 a143_30 r143_30 := evQ_fast 100000 (by kernel_rfl)
def big26 : A := (.sl 7 [sA #[104, 111, 109, 101], sA #[85, 110], sA #[115, 116, 97, 108, 101], sA #[45, 62], sA #[85, 110], sA #[58], sA #[98, 97, 99, 107]])
def a143_31 : List A := [sA #[104, 111, 109, 101, 32, 85, 110, 32, 115, 116, 97, 108, 101, 32, 45, 62, 32, 85, 110, 32, 58, 32, 98, 97, 99, 107], (.v (.func (.func 139) #[] #[]))]
def r143_31 : A := big26
theorem q143_31 : EvQ (CX X1) 143 a143_31 r143_31 := evQ_fast 100000 (by kernel_rfl)
def big27 : A := (.sl 9 [sA #[104, 111, 109, 101], sA #[83, 104], sA #[103, 101, 116, 115], sA #[45, 62], sA #[83, 104], sA #[58], sA #[109, 101, 109], sA #[110, 111, 116, 101], sA #[98, 117, 115, 121]])
def a143_32 : List A := [sA #[104, 111, 109, 101, 32, 83, 104, 32, 103, 101, 116, 115, 32, 45, 62, 32, 83, 104, 32, 58, 32, 109, 101, 109, 32, 110, 111, 116, 101, 32, 98, 117, 115, 121], (.v (.func (.func 139) #[] #[]))]
def r143_32 : A := big27
theorem q143_32 : EvQ (CX X1) 143 a143_32 r143_32 := evQ_fast 100000 (by kernel_rfl)
def big28 : A := sA #[104, 111, 109, 101, 32, 83, 104, 32, 103, 101, 116, 109, 32, 45, 62, 32, 69, 120, 32, 58, 32, 105, 110, 118, 115, 32, 109, 101, 109, 32, 99, 108, 101, 97, 114, 32, 111, 119, 110, 32, 98, 117, 115, 121]
def big29 : A := (.sl 11 [sA #[104, 111, 109, 101], sA #[83, 104], sA #[103, 101, 116, 109], sA #[45, 62], sA #[69, 120], sA #[58], sA #[105, 110, 118, 115], sA #[109, 101, 109], sA #[99, 108, 101, 97, 114], sA #[111, 119, 110], sA #[98, 117, 115, 121]])
def a143_33 : List A := [big28, (.v (.func (.func 139) #[] #[]))]
def r143_33 : A := big29
theorem q143_33 : EvQ (CX X1) 143 a143_33 r143_33 := evQ_fast 100000 (by kernel_rfl)
def big30 : A := (.sl 7 [sA #[104, 111, 109, 101], sA #[83, 104], sA #[115, 116, 97, 108, 101], sA #[45, 62], sA #[83, 104], sA #[58], sA #[98, 97, 99, 107]])
def a143_34 : List A := [sA #[104, 111, 109, 101, 32, 83, 104, 32, 115, 116, 97, 108, 101, 32, 45, 62, 32, 83, 104, 32, 58, 32, 98, 97, 99, 107], (.v (.func (.func 139) #[] #[]))]
def r143_34 : A := big30
theorem q143_34 : EvQ (CX X1) 143 a143_34 r143_34 := evQ_fast 100000 (by kernel_rfl)
def big31 : A := (.sl 9 [sA #[104, 111, 109, 101], sA #[69, 120], sA #[103, 101, 116, 109], sA #[45, 62], sA #[69, 120], sA #[58], sA #[102, 119, 100, 109], sA #[111, 119, 110], sA #[98, 117, 115, 121]])
def a143_35 : List A := [sA #[104, 111, 109, 101, 32, 69, 120, 32, 103, 101, 116, 109, 32, 45, 62, 32, 69, 120, 32, 58, 32, 102, 119, 100, 109, 32, 111, 119, 110, 32, 98, 117, 115, 121], (.v (.func (.func 139) #[] #[]))]
def r143_35 : A := big31
theorem q143_35 : EvQ (CX X1) 143 a143_35 r143_35 := evQ_fast 100000 (by kernel_rfl)
def big32 : A := (.sl 9 [sA #[104, 111, 109, 101], sA #[69, 120], sA #[98, 97, 99, 107], sA #[45, 62], sA #[85, 110], sA #[58], sA #[119, 114, 105, 116, 101], sA #[98, 97, 99, 107], sA #[102, 114, 101, 101]])
def a143_36 : List A := [sA #[104, 111, 109, 101, 32, 69, 120, 32, 98, 97, 99, 107, 32, 45, 62, 32, 85, 110, 32, 58, 32, 119, 114, 105, 116, 101, 32, 98, 97, 99, 107, 32, 102, 114, 101, 101], (.v (.func (.func 139) #[] #[]))]
def r143_36 : A := big32
theorem q143_36 : EvQ (CX X1) 143 a143_36 r143_36 := evQ_fast 100000 (by kernel_rfl)
def big33 : A := (.sl 7 [sA #[104, 111, 109, 101], sA #[69, 120], sA #[115, 116, 97, 108, 101], sA #[45, 62], sA #[69, 120], sA #[58], sA #[98, 97, 99, 107]])
def a143_37 : List A := [sA #[104, 111, 109, 101, 32, 69, 120, 32, 115, 116, 97, 108, 101, 32, 45, 62, 32, 69, 120, 32, 58, 32, 98, 97, 99, 107], (.v (.func (.func 139) #[] #[]))]
def r143_37 : A := big33
theorem q143_37 : EvQ (CX X1) 143 a143_37 r143_37 := evQ_fast 100000 (by kernel_rfl)
def big34 : A := (.sl 7 [sA #[99, 97, 99, 104, 101], sA #[69], sA #[108, 111, 97, 100], sA #[45, 62], sA #[69], sA #[58], sA #[100, 111]])
def a143_38 : List A := [sA #[99, 97, 99, 104, 101, 32, 69, 32, 108, 111, 97, 100, 32, 45, 62, 32, 69, 32, 58, 32, 100, 111], (.v (.func (.func 139) #[] #[]))]
def r143_38 : A := big34
theorem q143_38 : EvQ (CX X1) 143 a143_38 r143_38 := evQ_fast 100000 (by kernel_rfl)
def big35 : A := (.sl 7 [sA #[99, 97, 99, 104, 101], sA #[69], sA #[115, 116, 111, 114, 101], sA #[45, 62], sA #[77], sA #[58], sA #[100, 111]])
def a143_39 : List A := [sA #[99, 97, 99, 104, 101, 32, 69, 32, 115, 116, 111, 114, 101, 32, 45, 62, 32, 77, 32, 58, 32, 100, 111], (.v (.func (.func 139) #[] #[]))]
def r143_39 : A := big35
theorem q143_39 : EvQ (CX X1) 143 a143_39 r143_39 := evQ_fast 100000 (by kernel_rfl)
def big36 : A := (.sl 7 [sA #[99, 97, 99, 104, 101], sA #[69], sA #[101, 118, 105, 99, 116], sA #[45, 62], sA #[77, 73], sA #[58], sA #[112, 117, 116]])
def a143_40 : List A := [sA #[99, 97, 99, 104, 101, 32, 69, 32, 101, 118, 105, 99, 116, 32, 45, 62, 32, 77, 73, 32, 58, 32, 112, 117, 116], (.v (.func (.func 139) #[] #[]))]
def r143_40 : A := big36
theorem q143_40 : EvQ (CX X1) 143 a143_40 r143_40 := evQ_fast 100000 (by kernel_rfl)
def big37 : A := (.sl 8 [sA #[99, 97, 99, 104, 101], sA #[69], sA #[102, 119, 100, 109], sA #[45, 62], sA #[73], sA #[58], sA #[103, 105, 118, 101], sA #[100, 114, 111, 112]])
def a143_41 : List A := [sA #[99, 97, 99, 104, 101, 32, 69, 32, 102, 119, 100, 109, 32, 45, 62, 32, 73, 32, 58, 32, 103, 105, 118, 101, 32, 100, 114, 111, 112], (.v (.func (.func 139) #[] #[]))]
def r143_41 : A := big37
theorem q143_41 : EvQ (CX X1) 143 a143_41 r143_41 := evQ_fast 100000 (by kernel_rfl)
def big38 : A := (.sl 9 [sA #[99, 97, 99, 104, 101], sA #[73, 83], sA #[97, 108, 111, 110, 101], sA #[45, 62], sA #[69], sA #[58], sA #[116, 97, 107, 101], sA #[100, 111, 110, 101], sA #[100, 111]])
def a143_42 : List A := [sA #[99, 97, 99, 104, 101, 32, 73, 83, 32, 97, 108, 111, 110, 101, 32, 45, 62, 32, 69, 32, 58, 32, 116, 97, 107, 101, 32, 100, 111, 110, 101, 32, 100, 111], (.v (.func (.func 139) #[] #[]))]
def r143_42 : A := big38
theorem q143_42 : EvQ (CX X1) 143 a143_42 r143_42 := evQ_fast 100000 (by kernel_rfl)
def big39 : A := (.sl 9 [sA #[104, 111, 109, 101], sA #[85, 110], sA #[103, 101, 116, 115], sA #[45, 62], sA #[69, 120], sA #[58], sA #[97, 108, 111, 110, 101], sA #[111, 119, 110], sA #[98, 117, 115, 121]])
def a143_43 : List A := [sA #[104, 111, 109, 101, 32, 85, 110, 32, 103, 101, 116, 115, 32, 45, 62, 32, 69, 120, 32, 58, 32, 97, 108, 111, 110, 101, 32, 111, 119, 110, 32, 98, 117, 115, 121], (.v (.func (.func 139) #[] #[]))]
def r143_43 : A := big39
theorem q143_43 : EvQ (CX X1) 143 a143_43 r143_43 := evQ_fast 100000 (by kernel_rfl)
def big40 : A := (.sl 8 [sA #[99, 97, 99, 104, 101], sA #[77], sA #[102, 119, 100, 115], sA #[45, 62], sA #[83], sA #[58], sA #[103, 105, 118, 101], sA #[99, 111, 112, 121]])
def a143_44 : List A := [sA #[99, 97, 99, 104, 101, 32, 77, 32, 102, 119, 100, 115, 32, 45, 62, 32, 83, 32, 58, 32, 103, 105, 118, 101, 32, 99, 111, 112, 121], (.v (.func (.func 139) #[] #[]))]
def r143_44 : A := big40
theorem q143_44 : EvQ (CX X1) 143 a143_44 r143_44 := evQ_fast 100000 (by kernel_rfl)
def big41 : A := (.sl 8 [sA #[99, 97, 99, 104, 101], sA #[77, 73], sA #[102, 119, 100, 115], sA #[45, 62], sA #[73, 73], sA #[58], sA #[103, 105, 118, 101], sA #[99, 111, 112, 121]])
def a143_45 : List A := [sA #[99, 97, 99, 104, 101, 32, 77, 73, 32, 102, 119, 100, 115, 32, 45, 62, 32, 73, 73, 32, 58, 32, 103, 105, 118, 101, 32, 99, 111, 112, 121], (.v (.func (.func 139) #[] #[]))]
def r143_45 : A := big41
theorem q143_45 : EvQ (CX X1) 143 a143_45 r143_45 := evQ_fast 100000 (by kernel_rfl)
def big42 : A := sA #[104, 111, 109, 101, 32, 69, 120, 32, 103, 101, 116, 115, 32, 45, 62, 32, 83, 104, 32, 58, 32, 102, 119, 100, 115, 32, 110, 111, 116, 101, 32, 98, 111, 116, 104, 32, 98, 117, 115, 121, 32, 116, 119, 105, 99, 101]
def big43 : A := (.sl 11 [sA #[104, 111, 109, 101], sA #[69, 120], sA #[103, 101, 116, 115], sA #[45, 62], sA #[83, 104], sA #[58], sA #[102, 119, 100, 115], sA #[110, 111, 116, 101], sA #[98, 111, 116, 104], sA #[98, 117, 115, 121], sA #[116, 119, 105, 99, 101]])
def a143_46 : List A := [big42, (.v (.func (.func 139) #[] #[]))]
def r143_46 : A := big43
theorem q143_46 : EvQ (CX X1) 143 a143_46 r143_46 := evQ_fast 100000 (by kernel_rfl)
def big44 : A := (.sl 8 [sA #[99, 97, 99, 104, 101], sA #[69], sA #[102, 119, 100, 115], sA #[45, 62], sA #[83], sA #[58], sA #[103, 105, 118, 101], sA #[99, 111, 112, 121]])
def a143_47 : List A := [sA #[99, 97, 99, 104, 101, 32, 69, 32, 102, 119, 100, 115, 32, 45, 62, 32, 83, 32, 58, 32, 103, 105, 118, 101, 32, 99, 111, 112, 121], (.v (.func (.func 139) #[] #[]))]
def r143_47 : A := big44
theorem q143_47 : EvQ (CX X1) 143 a143_47 r143_47 := evQ_fast 100000 (by kernel_rfl)
def mt143 : List (List A × A) := [(a143_0, r143_0), (a143_1, r143_1), (a143_2, r143_2), (a143_3, r143_3), (a143_4, r143_4), (a143_5, r143_5), (a143_6, r143_6), (a143_7, r143_7), (a143_8, r143_8), (a143_9, r143_9), (a143_10, r143_10), (a143_11, r143_11), (a143_12, r143_12), (a143_13, r143_13), (a143_14, r143_14), (a143_15, r143_15), (a143_16, r143_16), (a143_17, r143_17), (a143_18, r143_18), (a143_19, r143_19), (a143_20, r143_20), (a143_21, r143_21), (a143_22, r143_22), (a143_23, r143_23), (a143_24, r143_24), (a143_25, r143_25), (a143_26, r143_26), (a143_27, r143_27), (a143_28, r143_28), (a143_29, r143_29), (a143_30, r143_30), (a143_31, r143_31), (a143_32, r143_32), (a143_33, r143_33), (a143_34, r143_34), (a143_35, r143_35), (a143_36, r143_36), (a143_37, r143_37), (a143_38, r143_38), (a143_39, r143_39), (a143_40, r143_40), (a143_41, r143_41), (a143_42, r143_42), (a143_43, r143_43), (a143_44, r143_44), (a143_45, r143_45), (a143_46, r143_46), (a143_47, r143_47)]
theorem mt143_ok : ∀ p ∈ mt143, EvQ (CX X1) 143 p.1 p.2 := by
  unfold mt143
  simp only [List.forall_mem_cons, List.not_mem_nil, false_implies, implies_true, and_true]
  exact ⟨q143_0, q143_1, q143_2, q143_3, q143_4, q143_5, q143_6, q143_7, q143_8, q143_9, q143_10, q143_11, q143_12, q143_13, q143_14, q143_15, q143_16, q143_17, q143_18, q143_19, q143_20, q143_21, q143_22, q143_23, q143_24, q143_25, q143_26, q143_27, q143_28, q143_29, q143_30, q143_31, q143_32, q143_33, q143_34, q143_35, q143_36, q143_37, q143_38, q143_39, q143_40, q143_41, q143_42, q143_43, q143_44, q143_45, q143_46, q143_47⟩
def a159_0 : List A := [i64 1, sA #[73]]
def r159_0 : A := (.tup [i64 0, bo true])
theorem q159_0 : EvQ (CX X1) 159 a159_0 r159_0 := evQ_fast 100000 (by kernel_rfl)
def a159_1 : List A := [i64 2, sA #[108, 111, 97, 100]]
def r159_1 : A := (.tup [i64 0, bo true])
theorem q159_1 : EvQ (CX X1) 159 a159_1 r159_1 := evQ_fast 100000 (by kernel_rfl)
def a159_2 : List A := [i64 1, sA #[73, 83]]
def r159_2 : A := (.tup [i64 5, bo true])
theorem q159_2 : EvQ (CX X1) 159 a159_2 r159_2 := evQ_fast 100000 (by kernel_rfl)
def a159_3 : List A := [i64 3, sA #[97, 115, 107]]
def r159_3 : A := (.tup [i64 1, bo true])
theorem q159_3 : EvQ (CX X1) 159 a159_3 r159_3 := evQ_fast 100000 (by kernel_rfl)
def a159_4 : List A := [i64 2, sA #[115, 116, 111, 114, 101]]
def r159_4 : A := (.tup [i64 1, bo true])
theorem q159_4 : EvQ (CX X1) 159 a159_4 r159_4 := evQ_fast 100000 (by kernel_rfl)
def a159_5 : List A := [i64 1, sA #[73, 77]]
def r159_5 : A := (.tup [i64 6, bo true])
theorem q159_5 : EvQ (CX X1) 159 a159_5 r159_5 := evQ_fast 100000 (by kernel_rfl)
def a159_6 : List A := [i64 3, sA #[97, 115, 107, 109]]
def r159_6 : A := (.tup [i64 2, bo true])
theorem q159_6 : EvQ (CX X1) 159 a159_6 r159_6 := evQ_fast 100000 (by kernel_rfl)
def a159_7 : List A := [i64 2, sA #[105, 110, 118]]
def r159_7 : A := (.tup [i64 5, bo true])
theorem q159_7 : EvQ (CX X1) 159 a159_7 r159_7 := evQ_fast 100000 (by kernel_rfl)
def a159_8 : List A := [i64 3, sA #[105, 110, 118]]
def r159_8 : A := (.tup [i64 6, bo true])
theorem q159_8 : EvQ (CX X1) 159 a159_8 r159_8 := evQ_fast 100000 (by kernel_rfl)
def a159_9 : List A := [i64 1, sA #[83]]
def r159_9 : A := (.tup [i64 1, bo true])
theorem q159_9 : EvQ (CX X1) 159 a159_9 r159_9 := evQ_fast 100000 (by kernel_rfl)
def a159_10 : List A := [i64 3, sA #[100, 111]]
def r159_10 : A := (.tup [i64 8, bo true])
theorem q159_10 : EvQ (CX X1) 159 a159_10 r159_10 := evQ_fast 100000 (by kernel_rfl)
def a159_11 : List A := [i64 1, sA #[83, 77]]
def r159_11 : A := (.tup [i64 7, bo true])
theorem q159_11 : EvQ (CX X1) 159 a159_11 r159_11 := evQ_fast 100000 (by kernel_rfl)
def a159_12 : List A := [i64 2, sA #[101, 118, 105, 99, 116]]
def r159_12 : A := (.tup [i64 2, bo true])
theorem q159_12 : EvQ (CX X1) 159 a159_12 r159_12 := evQ_fast 100000 (by kernel_rfl)
def a159_13 : List A := [i64 3, sA #[100, 114, 111, 112]]
def r159_13 : A := (.tup [i64 9, bo true])
theorem q159_13 : EvQ (CX X1) 159 a159_13 r159_13 := evQ_fast 100000 (by kernel_rfl)
def a159_14 : List A := [i64 1, sA #[77]]
def r159_14 : A := (.tup [i64 4, bo true])
theorem q159_14 : EvQ (CX X1) 159 a159_14 r159_14 := evQ_fast 100000 (by kernel_rfl)
def a159_15 : List A := [i64 1, sA #[77, 73]]
def r159_15 : A := (.tup [i64 10, bo true])
theorem q159_15 : EvQ (CX X1) 159 a159_15 r159_15 := evQ_fast 100000 (by kernel_rfl)
def a159_16 : List A := [i64 3, sA #[112, 117, 116]]
def r159_16 : A := (.tup [i64 3, bo true])
theorem q159_16 : EvQ (CX X1) 159 a159_16 r159_16 := evQ_fast 100000 (by kernel_rfl)
def a159_17 : List A := [i64 2, sA #[102, 119, 100, 109]]
def r159_17 : A := (.tup [i64 4, bo true])
theorem q159_17 : EvQ (CX X1) 159 a159_17 r159_17 := evQ_fast 100000 (by kernel_rfl)
def a159_18 : List A := [i64 3, sA #[103, 105, 118, 101]]
def r159_18 : A := (.tup [i64 4, bo true])
theorem q159_18 : EvQ (CX X1) 159 a159_18 r159_18 := evQ_fast 100000 (by kernel_rfl)
def a159_19 : List A := [i64 2, sA #[118, 97, 108, 117, 101]]
def r159_19 : A := (.tup [i64 7, bo true])
theorem q159_19 : EvQ (CX X1) 159 a159_19 r159_19 := evQ_fast 100000 (by kernel_rfl)
def a159_20 : List A := [i64 3, sA #[116, 97, 107, 101]]
def r159_20 : A := (.tup [i64 0, bo true])
theorem q159_20 : EvQ (CX X1) 159 a159_20 r159_20 := evQ_fast 100000 (by kernel_rfl)
def a159_21 : List A := [i64 3, sA #[100, 111, 110, 101]]
def r159_21 : A := (.tup [i64 7, bo true])
theorem q159_21 : EvQ (CX X1) 159 a159_21 r159_21 := evQ_fast 100000 (by kernel_rfl)
def a159_22 : List A := [i64 2, sA #[109, 111, 114, 101]]
def r159_22 : A := (.tup [i64 9, bo true])
theorem q159_22 : EvQ (CX X1) 159 a159_22 r159_22 := evQ_fast 100000 (by kernel_rfl)
def a159_23 : List A := [i64 1, sA #[73, 65]]
def r159_23 : A := (.tup [i64 9, bo true])
theorem q159_23 : EvQ (CX X1) 159 a159_23 r159_23 := evQ_fast 100000 (by kernel_rfl)
def a159_24 : List A := [i64 2, sA #[97, 99, 107]]
def r159_24 : A := (.tup [i64 12, bo true])
theorem q159_24 : EvQ (CX X1) 159 a159_24 r159_24 := evQ_fast 100000 (by kernel_rfl)
def a159_25 : List A := [i64 2, sA #[108, 97, 115, 116]]
def r159_25 : A := (.tup [i64 13, bo true])
theorem q159_25 : EvQ (CX X1) 159 a159_25 r159_25 := evQ_fast 100000 (by kernel_rfl)
def a159_26 : List A := [i64 1, sA #[73, 73]]
def r159_26 : A := (.tup [i64 11, bo true])
theorem q159_26 : EvQ (CX X1) 159 a159_26 r159_26 := evQ_fast 100000 (by kernel_rfl)
def a159_27 : List A := [i64 2, sA #[112, 117, 116]]
def r159_27 : A := (.tup [i64 6, bo true])
theorem q159_27 : EvQ (CX X1) 159 a159_27 r159_27 := evQ_fast 100000 (by kernel_rfl)
def a159_28 : List A := [i64 4, sA #[85, 110]]
def r159_28 : A := (.tup [i64 0, bo true])
theorem q159_28 : EvQ (CX X1) 159 a159_28 r159_28 := evQ_fast 100000 (by kernel_rfl)
def a159_29 : List A := [i64 5, sA #[103, 101, 116, 109]]
def r159_29 : A := (.tup [i64 1, bo true])
theorem q159_29 : EvQ (CX X1) 159 a159_29 r159_29 := evQ_fast 100000 (by kernel_rfl)
def a159_30 : List A := [i64 4, sA #[69, 120]]
def r159_30 : A := (.tup [i64 2, bo true])
theorem q159_30 : EvQ (CX X1) 159 a159_30 r159_30 := evQ_fast 100000 (by kernel_rfl)
def a159_31 : List A := [i64 6, sA #[109, 101, 109]]
def r159_31 : A := (.tup [i64 1, bo true])
theorem q159_31 : EvQ (CX X1) 159 a159_31 r159_31 := evQ_fast 100000 (by kernel_rfl)
def a159_32 : List A := [i64 6, sA #[111, 119, 110]]
def r159_32 : A := (.tup [i64 11, bo true])
theorem q159_32 : EvQ (CX X1) 159 a159_32 r159_32 := evQ_fast 100000 (by kernel_rfl)
def a159_33 : List A := [i64 6, sA #[98, 117, 115, 121]]
def r159_33 : A := (.tup [i64 13, bo true])
theorem q159_33 : EvQ (CX X1) 159 a159_33 r159_33 := evQ_fast 100000 (by kernel_rfl)
def a159_34 : List A := [i64 5, sA #[115, 116, 97, 108, 101]]
def r159_34 : A := (.tup [i64 4, bo true])
theorem q159_34 : EvQ (CX X1) 159 a159_34 r159_34 := evQ_fast 100000 (by kernel_rfl)
def a159_35 : List A := [i64 6, sA #[98, 97, 99, 107]]
def r159_35 : A := (.tup [i64 7, bo true])
theorem q159_35 : EvQ (CX X1) 159 a159_35 r159_35 := evQ_fast 100000 (by kernel_rfl)
def a159_36 : List A := [i64 4, sA #[83, 104]]
def r159_36 : A := (.tup [i64 1, bo true])
theorem q159_36 : EvQ (CX X1) 159 a159_36 r159_36 := evQ_fast 100000 (by kernel_rfl)
def a159_37 : List A := [i64 5, sA #[103, 101, 116, 115]]
def r159_37 : A := (.tup [i64 0, bo true])
theorem q159_37 : EvQ (CX X1) 159 a159_37 r159_37 := evQ_fast 100000 (by kernel_rfl)
def a159_38 : List A := [i64 6, sA #[110, 111, 116, 101]]
def r159_38 : A := (.tup [i64 9, bo true])
theorem q159_38 : EvQ (CX X1) 159 a159_38 r159_38 := evQ_fast 100000 (by kernel_rfl)
def a159_39 : List A := [i64 6, sA #[105, 110, 118, 115]]
def r159_39 : A := (.tup [i64 0, bo true])
theorem q159_39 : EvQ (CX X1) 159 a159_39 r159_39 := evQ_fast 100000 (by kernel_rfl)
def a159_40 : List A := [i64 6, sA #[99, 108, 101, 97, 114]]
def r159_40 : A := (.tup [i64 8, bo true])
theorem q159_40 : EvQ (CX X1) 159 a159_40 r159_40 := evQ_fast 100000 (by kernel_rfl)
def a159_41 : List A := [i64 6, sA #[102, 119, 100, 109]]
def r159_41 : A := (.tup [i64 4, bo true])
theorem q159_41 : EvQ (CX X1) 159 a159_41 r159_41 := evQ_fast 100000 (by kernel_rfl)
def a159_42 : List A := [i64 5, sA #[98, 97, 99, 107]]
def r159_42 : A := (.tup [i64 3, bo true])
theorem q159_42 : EvQ (CX X1) 159 a159_42 r159_42 := evQ_fast 100000 (by kernel_rfl)
def a159_43 : List A := [i64 6, sA #[119, 114, 105, 116, 101]]
def r159_43 : A := (.tup [i64 6, bo true])
theorem q159_43 : EvQ (CX X1) 159 a159_43 r159_43 := evQ_fast 100000 (by kernel_rfl)
def a159_44 : List A := [i64 6, sA #[102, 114, 101, 101]]
def r159_44 : A := (.tup [i64 12, bo true])
theorem q159_44 : EvQ (CX X1) 159 a159_44 r159_44 := evQ_fast 100000 (by kernel_rfl)
def a159_45 : List A := [i64 1, sA #[69]]
def r159_45 : A := (.tup [i64 2, bo true])
theorem q159_45 : EvQ (CX X1) 159 a159_45 r159_45 := evQ_fast 100000 (by kernel_rfl)
def a159_46 : List A := [i64 2, sA #[97, 108, 111, 110, 101]]
def r159_46 : A := (.tup [i64 8, bo true])
theorem q159_46 : EvQ (CX X1) 159 a159_46 r159_46 := evQ_fast 100000 (by kernel_rfl)
def a159_47 : List A := [i64 6, sA #[97, 108, 111, 110, 101]]
def r159_47 : A := (.tup [i64 2, bo true])
theorem q159_47 : EvQ (CX X1) 159 a159_47 r159_47 := evQ_fast 100000 (by kernel_rfl)
def a159_48 : List A := [i64 2, sA #[102, 119, 100, 115]]
def r159_48 : A := (.tup [i64 3, bo true])
theorem q159_48 : EvQ (CX X1) 159 a159_48 r159_48 := evQ_fast 100000 (by kernel_rfl)
def a159_49 : List A := [i64 3, sA #[99, 111, 112, 121]]
def r159_49 : A := (.tup [i64 5, bo true])
theorem q159_49 : EvQ (CX X1) 159 a159_49 r159_49 := evQ_fast 100000 (by kernel_rfl)
def a159_50 : List A := [i64 6, sA #[102, 119, 100, 115]]
def r159_50 : A := (.tup [i64 3, bo true])
theorem q159_50 : EvQ (CX X1) 159 a159_50 r159_50 := evQ_fast 100000 (by kernel_rfl)
def a159_51 : List A := [i64 6, sA #[98, 111, 116, 104]]
def r159_51 : A := (.tup [i64 10, bo true])
theorem q159_51 : EvQ (CX X1) 159 a159_51 r159_51 := evQ_fast 100000 (by kernel_rfl)
def a159_52 : List A := [i64 6, sA #[116, 119, 105, 99, 101]]
def r159_52 : A := (.tup [i64 14, bo true])
theorem q159_52 : EvQ (CX X1) 159 a159_52 r159_52 := evQ_fast 100000 (by kernel_rfl)
def mt159 : List (List A × A) := [(a159_0, r159_0), (a159_1, r159_1), (a159_2, r159_2), (a159_3, r159_3), (a159_4, r159_4), (a159_5, r159_5), (a159_6, r159_6), (a159_7, r159_7), (a159_8, r159_8), (a159_9, r159_9), (a159_10, r159_10), (a159_11, r159_11), (a159_12, r159_12), (a159_13, r159_13), (a159_14, r159_14), (a159_15, r159_15), (a159_16, r159_16), (a159_17, r159_17), (a159_18, r159_18), (a159_19, r159_19), (a159_20, r159_20), (a159_21, r159_21), (a159_22, r159_22), (a159_23, r159_23), (a159_24, r159_24), (a159_25, r159_25), (a159_26, r159_26), (a159_27, r159_27), (a159_28, r159_28), (a159_29, r159_29), (a159_30, r159_30), (a159_31, r159_31), (a159_32, r159_32), (a159_33, r159_33), (a159_34, r159_34), (a159_35, r159_35), (a159_36, r159_36), (a159_37, r159_37), (a159_38, r159_38), (a159_39, r159_39), (a159_40, r159_40), (a159_41, r159_41), (a159_42, r159_42), (a159_43, r159_43), (a159_44, r159_44), (a159_45, r159_45), (a159_46, r159_46), (a159_47, r159_47), (a159_48, r159_48), (a159_49, r159_49), (a159_50, r159_50), (a159_51, r159_51), (a159_52, r159_52)]
theorem mt159_ok : ∀ p ∈ mt159, EvQ (CX X1) 159 p.1 p.2 := by
  unfold mt159
  simp only [List.forall_mem_cons, List.not_mem_nil, false_implies, implies_true, and_true]
  exact ⟨q159_0, q159_1, q159_2, q159_3, q159_4, q159_5, q159_6, q159_7, q159_8, q159_9, q159_10, q159_11, q159_12, q159_13, q159_14, q159_15, q159_16, q159_17, q159_18, q159_19, q159_20, q159_21, q159_22, q159_23, q159_24, q159_25, q159_26, q159_27, q159_28, q159_29, q159_30, q159_31, q159_32, q159_33, q159_34, q159_35, q159_36, q159_37, q159_38, q159_39, q159_40, q159_41, q159_42, q159_43, q159_44, q159_45, q159_46, q159_47, q159_48, q159_49, q159_50, q159_51, q159_52⟩
def a142_0 : List A := [sA #[116, 97, 98, 108, 101, 32, 109, 101, 115, 105], sA #[35]]
def r142_0 : A := (.tup [sA #[116, 97, 98, 108, 101, 32, 109, 101, 115, 105], sA #[], bo false])
theorem q142_0 : EvQ (CX X1) 142 a142_0 r142_0 := evQ_fast 100000 (by kernel_rfl)
def a142_1 : List A := [sA #[], sA #[35]]
def r142_1 : A := (.tup [sA #[], sA #[], bo false])
theorem q142_1 : EvQ (CX X1) 142 a142_1 r142_1 := evQ_fast 100000 (by kernel_rfl)
def a142_2 : List A := [sA #[99, 97, 99, 104, 101, 32, 73, 32, 108, 111, 97, 100, 32, 45, 62, 32, 73, 83, 32, 58, 32, 97, 115, 107], sA #[35]]
def r142_2 : A := (.tup [sA #[99, 97, 99, 104, 101, 32, 73, 32, 108, 111, 97, 100, 32, 45, 62, 32, 73, 83, 32, 58, 32, 97, 115, 107], sA #[], bo false])
theorem q142_2 : EvQ (CX X1) 142 a142_2 r142_2 := evQ_fast 100000 (by kernel_rfl)
def a142_3 : List A := [sA #[99, 97, 99, 104, 101, 32, 73, 32, 115, 116, 111, 114, 101, 32, 45, 62, 32, 73, 77, 32, 58, 32, 97, 115, 107, 109], sA #[35]]
def r142_3 : A := (.tup [sA #[99, 97, 99, 104, 101, 32, 73, 32, 115, 116, 111, 114, 101, 32, 45, 62, 32, 73, 77, 32, 58, 32, 97, 115, 107, 109], sA #[], bo false])
theorem q142_3 : EvQ (CX X1) 142 a142_3 r142_3 := evQ_fast 100000 (by kernel_rfl)
def a142_4 : List A := [sA #[99, 97, 99, 104, 101, 32, 73, 32, 105, 110, 118, 32, 45, 62, 32, 73, 32, 58, 32, 105, 110, 118], sA #[35]]
def r142_4 : A := (.tup [sA #[99, 97, 99, 104, 101, 32, 73, 32, 105, 110, 118, 32, 45, 62, 32, 73, 32, 58, 32, 105, 110, 118], sA #[], bo false])
theorem q142_4 : EvQ (CX X1) 142 a142_4 r142_4 := evQ_fast 100000 (by kernel_rfl)
def a142_5 : List A := [sA #[99, 97, 99, 104, 101, 32, 83, 32, 108, 111, 97, 100, 32, 45, 62, 32, 83, 32, 58, 32, 100, 111], sA #[35]]
def r142_5 : A := (.tup [sA #[99, 97, 99, 104, 101, 32, 83, 32, 108, 111, 97, 100, 32, 45, 62, 32, 83, 32, 58, 32, 100, 111], sA #[], bo false])
theorem q142_5 : EvQ (CX X1) 142 a142_5 r142_5 := evQ_fast 100000 (by kernel_rfl)
def a142_6 : List A := [sA #[99, 97, 99, 104, 101, 32, 83, 32, 115, 116, 111, 114, 101, 32, 45, 62, 32, 83, 77, 32, 58, 32, 97, 115, 107, 109], sA #[35]]
def r142_6 : A := (.tup [sA #[99, 97, 99, 104, 101, 32, 83, 32, 115, 116, 111, 114, 101, 32, 45, 62, 32, 83, 77, 32, 58, 32, 97, 115, 107, 109], sA #[], bo false])
theorem q142_6 : EvQ (CX X1) 142 a142_6 r142_6 := evQ_fast 100000 (by kernel_rfl)
def a142_7 : List A := [sA #[99, 97, 99, 104, 101, 32, 83, 32, 101, 118, 105, 99, 116, 32, 45, 62, 32, 73, 32, 58, 32, 100, 114, 111, 112], sA #[35]]
def r142_7 : A := (.tup [sA #[99, 97, 99, 104, 101, 32, 83, 32, 101, 118, 105, 99, 116, 32, 45, 62, 32, 73, 32, 58, 32, 100, 114, 111, 112], sA #[], bo false])
theorem q142_7 : EvQ (CX X1) 142 a142_7 r142_7 := evQ_fast 100000 (by kernel_rfl)
def a142_8 : List A := [sA #[99, 97, 99, 104, 101, 32, 83, 32, 105, 110, 118, 32, 45, 62, 32, 73, 32, 58, 32, 105, 110, 118, 32, 100, 114, 111, 112], sA #[35]]
def r142_8 : A := (.tup [sA #[99, 97, 99, 104, 101, 32, 83, 32, 105, 110, 118, 32, 45, 62, 32, 73, 32, 58, 32, 105, 110, 118, 32, 100, 114, 111, 112], sA #[], bo false])
theorem q142_8 : EvQ (CX X1) 142 a142_8 r142_8 := evQ_fast 100000 (by kernel_rfl)
def a142_9 : List A := [sA #[99, 97, 99, 104, 101, 32, 77, 32, 108, 111, 97, 100, 32, 45, 62, 32, 77, 32, 58, 32, 100, 111], sA #[35]]
def r142_9 : A := (.tup [sA #[99, 97, 99, 104, 101, 32, 77, 32, 108, 111, 97, 100, 32, 45, 62, 32, 77, 32, 58, 32, 100, 111], sA #[], bo false])
theorem q142_9 : EvQ (CX X1) 142 a142_9 r142_9 := evQ_fast 100000 (by kernel_rfl)
def a142_10 : List A := [sA #[99, 97, 99, 104, 101, 32, 77, 32, 115, 116, 111, 114, 101, 32, 45, 62, 32, 77, 32, 58, 32, 100, 111], sA #[35]]
def r142_10 : A := (.tup [sA #[99, 97, 99, 104, 101, 32, 77, 32, 115, 116, 111, 114, 101, 32, 45, 62, 32, 77, 32, 58, 32, 100, 111], sA #[], bo false])
theorem q142_10 : EvQ (CX X1) 142 a142_10 r142_10 := evQ_fast 100000 (by kernel_rfl)
def a142_11 : List A := [sA #[99, 97, 99, 104, 101, 32, 77, 32, 101, 118, 105, 99, 116, 32, 45, 62, 32, 77, 73, 32, 58, 32, 112, 117, 116], sA #[35]]
def r142_11 : A := (.tup [sA #[99, 97, 99, 104, 101, 32, 77, 32, 101, 118, 105, 99, 116, 32, 45, 62, 32, 77, 73, 32, 58, 32, 112, 117, 116], sA #[], bo false])
theorem q142_11 : EvQ (CX X1) 142 a142_11 r142_11 := evQ_fast 100000 (by kernel_rfl)
def a142_12 : List A := [sA #[99, 97, 99, 104, 101, 32, 77, 32, 102, 119, 100, 109, 32, 45, 62, 32, 73, 32, 58, 32, 103, 105, 118, 101, 32, 100, 114, 111, 112], sA #[35]]
def r142_12 : A := (.tup [sA #[99, 97, 99, 104, 101, 32, 77, 32, 102, 119, 100, 109, 32, 45, 62, 32, 73, 32, 58, 32, 103, 105, 118, 101, 32, 100, 114, 111, 112], sA #[], bo false])
theorem q142_12 : EvQ (CX X1) 142 a142_12 r142_12 := evQ_fast 100000 (by kernel_rfl)
def a142_13 : List A := [sA #[99, 97, 99, 104, 101, 32, 73, 83, 32, 105, 110, 118, 32, 45, 62, 32, 73, 83, 32, 58, 32, 105, 110, 118], sA #[35]]
def r142_13 : A := (.tup [sA #[99, 97, 99, 104, 101, 32, 73, 83, 32, 105, 110, 118, 32, 45, 62, 32, 73, 83, 32, 58, 32, 105, 110, 118], sA #[], bo false])
theorem q142_13 : EvQ (CX X1) 142 a142_13 r142_13 := evQ_fast 100000 (by kernel_rfl)
def big45 : A := (.tup [sA #[99, 97, 99, 104, 101, 32, 73, 83, 32, 118, 97, 108, 117, 101, 32, 45, 62, 32, 83, 32, 58, 32, 116, 97, 107, 101, 32, 100, 111, 110, 101, 32, 100, 111], sA #[], bo false])
def a142_14 : List A := [sA #[99, 97, 99, 104, 101, 32, 73, 83, 32, 118, 97, 108, 117, 101, 32, 45, 62, 32, 83, 32, 58, 32, 116, 97, 107, 101, 32, 100, 111, 110, 101, 32, 100, 111], sA #[35]]
def r142_14 : A := big45
theorem q142_14 : EvQ (CX X1) 142 a142_14 r142_14 := evQ_fast 100000 (by kernel_rfl)
def a142_15 : List A := [sA #[99, 97, 99, 104, 101, 32, 73, 77, 32, 105, 110, 118, 32, 45, 62, 32, 73, 77, 32, 58, 32, 105, 110, 118], sA #[35]]
def r142_15 : A := (.tup [sA #[99, 97, 99, 104, 101, 32, 73, 77, 32, 105, 110, 118, 32, 45, 62, 32, 73, 77, 32, 58, 32, 105, 110, 118], sA #[], bo false])
theorem q142_15 : EvQ (CX X1) 142 a142_15 r142_15 := evQ_fast 100000 (by kernel_rfl)
def big46 : A := (.tup [sA #[99, 97, 99, 104, 101, 32, 73, 77, 32, 118, 97, 108, 117, 101, 32, 45, 62, 32, 77, 32, 58, 32, 116, 97, 107, 101, 32, 100, 111, 110, 101, 32, 100, 111], sA #[], bo false])
def a142_16 : List A := [sA #[99, 97, 99, 104, 101, 32, 73, 77, 32, 118, 97, 108, 117, 101, 32, 45, 62, 32, 77, 32, 58, 32, 116, 97, 107, 101, 32, 100, 111, 110, 101, 32, 100, 111], sA #[35]]
def r142_16 : A := big46
theorem q142_16 : EvQ (CX X1) 142 a142_16 r142_16 := evQ_fast 100000 (by kernel_rfl)
def a142_17 : List A := [sA #[99, 97, 99, 104, 101, 32, 73, 77, 32, 109, 111, 114, 101, 32, 45, 62, 32, 73, 65, 32, 58, 32, 116, 97, 107, 101], sA #[35]]
def r142_17 : A := (.tup [sA #[99, 97, 99, 104, 101, 32, 73, 77, 32, 109, 111, 114, 101, 32, 45, 62, 32, 73, 65, 32, 58, 32, 116, 97, 107, 101], sA #[], bo false])
theorem q142_17 : EvQ (CX X1) 142 a142_17 r142_17 := evQ_fast 100000 (by kernel_rfl)
def a142_18 : List A := [sA #[99, 97, 99, 104, 101, 32, 73, 77, 32, 97, 99, 107, 32, 45, 62, 32, 73, 77], sA #[35]]
def r142_18 : A := (.tup [sA #[99, 97, 99, 104, 101, 32, 73, 77, 32, 97, 99, 107, 32, 45, 62, 32, 73, 77], sA #[], bo false])
theorem q142_18 : EvQ (CX X1) 142 a142_18 r142_18 := evQ_fast 100000 (by kernel_rfl)
def a142_19 : List A := [sA #[99, 97, 99, 104, 101, 32, 83, 77, 32, 105, 110, 118, 32, 45, 62, 32, 73, 77, 32, 58, 32, 105, 110, 118], sA #[35]]
def r142_19 : A := (.tup [sA #[99, 97, 99, 104, 101, 32, 83, 77, 32, 105, 110, 118, 32, 45, 62, 32, 73, 77, 32, 58, 32, 105, 110, 118], sA #[], bo false])
theorem q142_19 : EvQ (CX X1) 142 a142_19 r142_19 := evQ_fast 100000 (by kernel_rfl)
def big47 : A := (.tup [sA #[99, 97, 99, 104, 101, 32, 83, 77, 32, 118, 97, 108, 117, 101, 32, 45, 62, 32, 77, 32, 58, 32, 116, 97, 107, 101, 32, 100, 111, 110, 101, 32, 100, 111], sA #[], bo false])
def a142_20 : List A := [sA #[99, 97, 99, 104, 101, 32, 83, 77, 32, 118, 97, 108, 117, 101, 32, 45, 62, 32, 77, 32, 58, 32, 116, 97, 107, 101, 32, 100, 111, 110, 101, 32, 100, 111], sA #[35]]
def r142_20 : A := big47
theorem q142_20 : EvQ (CX X1) 142 a142_20 r142_20 := evQ_fast 100000 (by kernel_rfl)
def a142_21 : List A := [sA #[99, 97, 99, 104, 101, 32, 83, 77, 32, 109, 111, 114, 101, 32, 45, 62, 32, 73, 65, 32, 58, 32, 116, 97, 107, 101], sA #[35]]
def r142_21 : A := (.tup [sA #[99, 97, 99, 104, 101, 32, 83, 77, 32, 109, 111, 114, 101, 32, 45, 62, 32, 73, 65, 32, 58, 32, 116, 97, 107, 101], sA #[], bo false])
theorem q142_21 : EvQ (CX X1) 142 a142_21 r142_21 := evQ_fast 100000 (by kernel_rfl)
def a142_22 : List A := [sA #[99, 97, 99, 104, 101, 32, 83, 77, 32, 97, 99, 107, 32, 45, 62, 32, 83, 77], sA #[35]]
def r142_22 : A := (.tup [sA #[99, 97, 99, 104, 101, 32, 83, 77, 32, 97, 99, 107, 32, 45, 62, 32, 83, 77], sA #[], bo false])
theorem q142_22 : EvQ (CX X1) 142 a142_22 r142_22 := evQ_fast 100000 (by kernel_rfl)
def a142_23 : List A := [sA #[99, 97, 99, 104, 101, 32, 73, 65, 32, 97, 99, 107, 32, 45, 62, 32, 73, 65], sA #[35]]
def r142_23 : A := (.tup [sA #[99, 97, 99, 104, 101, 32, 73, 65, 32, 97, 99, 107, 32, 45, 62, 32, 73, 65], sA #[], bo false])
theorem q142_23 : EvQ (CX X1) 142 a142_23 r142_23 := evQ_fast 100000 (by kernel_rfl)
def a142_24 : List A := [sA #[99, 97, 99, 104, 101, 32, 73, 65, 32, 108, 97, 115, 116, 32, 45, 62, 32, 77, 32, 58, 32, 100, 111, 110, 101, 32, 100, 111], sA #[35]]
def r142_24 : A := (.tup [sA #[99, 97, 99, 104, 101, 32, 73, 65, 32, 108, 97, 115, 116, 32, 45, 62, 32, 77, 32, 58, 32, 100, 111, 110, 101, 32, 100, 111], sA #[], bo false])
theorem q142_24 : EvQ (CX X1) 142 a142_24 r142_24 := evQ_fast 100000 (by kernel_rfl)
def a142_25 : List A := [sA #[99, 97, 99, 104, 101, 32, 77, 73, 32, 102, 119, 100, 109, 32, 45, 62, 32, 73, 73, 32, 58, 32, 103, 105, 118, 101], sA #[35]]
def r142_25 : A := (.tup [sA #[99, 97, 99, 104, 101, 32, 77, 73, 32, 102, 119, 100, 109, 32, 45, 62, 32, 73, 73, 32, 58, 32, 103, 105, 118, 101], sA #[], bo false])
theorem q142_25 : EvQ (CX X1) 142 a142_25 r142_25 := evQ_fast 100000 (by kernel_rfl)
def a142_26 : List A := [sA #[99, 97, 99, 104, 101, 32, 77, 73, 32, 105, 110, 118, 32, 45, 62, 32, 73, 73, 32, 58, 32, 105, 110, 118], sA #[35]]
def r142_26 : A := (.tup [sA #[99, 97, 99, 104, 101, 32, 77, 73, 32, 105, 110, 118, 32, 45, 62, 32, 73, 73, 32, 58, 32, 105, 110, 118], sA #[], bo false])
theorem q142_26 : EvQ (CX X1) 142 a142_26 r142_26 := evQ_fast 100000 (by kernel_rfl)
def a142_27 : List A := [sA #[99, 97, 99, 104, 101, 32, 77, 73, 32, 112, 117, 116, 32, 45, 62, 32, 73, 32, 58, 32, 100, 114, 111, 112], sA #[35]]
def r142_27 : A := (.tup [sA #[99, 97, 99, 104, 101, 32, 77, 73, 32, 112, 117, 116, 32, 45, 62, 32, 73, 32, 58, 32, 100, 114, 111, 112], sA #[], bo false])
theorem q142_27 : EvQ (CX X1) 142 a142_27 r142_27 := evQ_fast 100000 (by kernel_rfl)
def a142_28 : List A := [sA #[99, 97, 99, 104, 101, 32, 73, 73, 32, 105, 110, 118, 32, 45, 62, 32, 73, 73, 32, 58, 32, 105, 110, 118], sA #[35]]
def r142_28 : A := (.tup [sA #[99, 97, 99, 104, 101, 32, 73, 73, 32, 105, 110, 118, 32, 45, 62, 32, 73, 73, 32, 58, 32, 105, 110, 118], sA #[], bo false])
theorem q142_28 : EvQ (CX X1) 142 a142_28 r142_28 := evQ_fast 100000 (by kernel_rfl)
def a142_29 : List A := [sA #[99, 97, 99, 104, 101, 32, 73, 73, 32, 112, 117, 116, 32, 45, 62, 32, 73, 32, 58, 32, 100, 114, 111, 112], sA #[35]]
def r142_29 : A := (.tup [sA #[99, 97, 99, 104, 101, 32, 73, 73, 32, 112, 117, 116, 32, 45, 62, 32, 73, 32, 58, 32, 100, 114, 111, 112], sA #[], bo false])
theorem q142_29 : EvQ (CX X1) 142 a142_29 r142_29 := evQ_fast 100000 (by kernel_rfl)
def big48 : A := (.tup [sA #[104, 111, 109, 101, 32, 85, 110, 32, 103, 101, 116, 109, 32, 45, 62, 32, 69, 120, 32, 58, 32, 109, 101, 109, 32, 111, 119, 110, 32, 98, 117, 115, 121], sA #[], bo false])
def a142_30 : List A := [sA #[104, 111, 109, 101, 32, 85, 110, 32, 103, 101, 116, 109, 32, 45, 62, 32, 69, 120, 32, 58, 32, 109, 101, 109, 32, 111, 119, 110, 32, 98, 117, 115, 121], sA #[35]]
def r142_30 : A := big48
theorem q142_30 : EvQ (CX X1) 142 a142_30 r142_30 := evQ_fast 100000 (by kernel_rfl)
def a142_31 : List A := [sA #[104, 111, 109, 101, 32, 85, 110, 32, 115, 116, 97, 108, 101, 32, 45, 62, 32, 85, 110, 32, 58, 32, 98, 97, 99, 107], sA #[35]]
def r142_31 : A := (.tup [sA #[104, 111, 109, 101, 32, 85, 110, 32, 115, 116, 97, 108, 101, 32, 45, 62, 32, 85, 110, 32, 58, 32, 98, 97, 99, 107], sA #[], bo false])
theorem q142_31 : EvQ (CX X1) 142 a142_31 r142_31 := evQ_fast 100000 (by kernel_rfl)
def big49 : A := (.tup [sA #[104, 111, 109, 101, 32, 83, 104, 32, 103, 101, 116, 115, 32, 45, 62, 32, 83, 104, 32, 58, 32, 109, 101, 109, 32, 110, 111, 116, 101, 32, 98, 117, 115, 121], sA #[], bo false])
def a142_32 : List A := [sA #[104, 111, 109, 101, 32, 83, 104, 32, 103, 101, 116, 115, 32, 45, 62, 32, 83, 104, 32, 58, 32, 109, 101, 109, 32, 110, 111, 116, 101, 32, 98, 117, 115, 121], sA #[35]]
def r142_32 : A := big49
theorem q142_32 : EvQ (CX X1) 142 a142_32 r142_32 := evQ_fast 100000 (by kernel_rfl)
def big50 : A := (.tup [sA #[104, 111, 109, 101, 32, 83, 104, 32, 103, 101, 116, 109, 32, 45, 62, 32, 69, 120, 32, 58, 32, 105, 110, 118, 115, 32, 109, 101, 109, 32, 99, 108, 101, 97, 114, 32, 111, 119, 110, 32, 98, 117, 115, 121], sA #[], bo false])
def a142_33 : List A := [big28, sA #[35]]
def r142_33 : A := big50
theorem q142_33 : EvQ (CX X1) 142 a142_33 r142_33 := evQ_fast 100000 (by kernel_rfl)
def a142_34 : List A := [sA #[104, 111, 109, 101, 32, 83, 104, 32, 115, 116, 97, 108, 101, 32, 45, 62, 32, 83, 104, 32, 58, 32, 98, 97, 99, 107], sA #[35]]
def r142_34 : A := (.tup [sA #[104, 111, 109, 101, 32, 83, 104, 32, 115, 116, 97, 108, 101, 32, 45, 62, 32, 83, 104, 32, 58, 32, 98, 97, 99, 107], sA #[], bo false])
theorem q142_34 : EvQ (CX X1) 142 a142_34 r142_34 := evQ_fast 100000 (by kernel_rfl)
def big51 : A := (.tup [sA #[104, 111, 109, 101, 32, 69, 120, 32, 103, 101, 116, 109, 32, 45, 62, 32, 69, 120, 32, 58, 32, 102, 119, 100, 109, 32, 111, 119, 110, 32, 98, 117, 115, 121], sA #[], bo false])
def a142_35 : List A := [sA #[104, 111, 109, 101, 32, 69, 120, 32, 103, 101, 116, 109, 32, 45, 62, 32, 69, 120, 32, 58, 32, 102, 119, 100, 109, 32, 111, 119, 110, 32, 98, 117, 115, 121], sA #[35]]
def r142_35 : A := big51
theorem q142_35 : EvQ (CX X1) 142 a142_35 r142_35 := evQ_fast 100000 (by kernel_rfl)
def big52 : A := (.tup [sA #[104, 111, 109, 101, 32, 69, 120, 32, 98, 97, 99, 107, 32, 45, 62, 32, 85, 110, 32, 58, 32, 119, 114, 105, 116, 101, 32, 98, 97, 99, 107, 32, 102, 114, 101, 101], sA #[], bo false])
def a142_36 : List A := [sA #[104, 111, 109, 101, 32, 69, 120, 32, 98, 97, 99, 107, 32, 45, 62, 32, 85, 110, 32, 58, 32, 119, 114, 105, 116, 101, 32, 98, 97, 99, 107, 32, 102, 114, 101, 101], sA #[35]]
def r142_36 : A := big52
theorem q142_36 : EvQ (CX X1) 142 a142_36 r142_36 := evQ_fast 100000 (by kernel_rfl)
def a142_37 : List A := [sA #[104, 111, 109, 101, 32, 69, 120, 32, 115, 116, 97, 108, 101, 32, 45, 62, 32, 69, 120, 32, 58, 32, 98, 97, 99, 107], sA #[35]]
def r142_37 : A := (.tup [sA #[104, 111, 109, 101, 32, 69, 120, 32, 115, 116, 97, 108, 101, 32, 45, 62, 32, 69, 120, 32, 58, 32, 98, 97, 99, 107], sA #[], bo false])
theorem q142_37 : EvQ (CX X1) 142 a142_37 r142_37 := evQ_fast 100000 (by kernel_rfl)
def a142_38 : List A := [sA #[99, 97, 99, 104, 101, 32, 69, 32, 108, 111, 97, 100, 32, 45, 62, 32, 69, 32, 58, 32, 100, 111], sA #[35]]
def r142_38 : A := (.tup [sA #[99, 97, 99, 104, 101, 32, 69, 32, 108, 111, 97, 100, 32, 45, 62, 32, 69, 32, 58, 32, 100, 111], sA #[], bo false])
theorem q142_38 : EvQ (CX X1) 142 a142_38 r142_38 := evQ_fast 100000 (by kernel_rfl)
def a142_39 : List A := [sA #[99, 97, 99, 104, 101, 32, 69, 32, 115, 116, 111, 114, 101, 32, 45, 62, 32, 77, 32, 58, 32, 100, 111], sA #[35]]
def r142_39 : A := (.tup [sA #[99, 97, 99, 104, 101, 32, 69, 32, 115, 116, 111, 114, 101, 32, 45, 62, 32, 77, 32, 58, 32, 100, 111], sA #[], bo false])
theorem q142_39 : EvQ (CX X1) 142 a142_39 r142_39 := evQ_fast 100000 (by kernel_rfl)
def a142_40 : List A := [sA #[99, 97, 99, 104, 101, 32, 69, 32, 101, 118, 105, 99, 116, 32, 45, 62, 32, 77, 73, 32, 58, 32, 112, 117, 116], sA #[35]]
def r142_40 : A := (.tup [sA #[99, 97, 99, 104, 101, 32, 69, 32, 101, 118, 105, 99, 116, 32, 45, 62, 32, 77, 73, 32, 58, 32, 112, 117, 116], sA #[], bo false])
theorem q142_40 : EvQ (CX X1) 142 a142_40 r142_40 := evQ_fast 100000 (by kernel_rfl)
def a142_41 : List A := [sA #[99, 97, 99, 104, 101, 32, 69, 32, 102, 119, 100, 109, 32, 45, 62, 32, 73, 32, 58, 32, 103, 105, 118, 101, 32, 100, 114, 111, 112], sA #[35]]
def r142_41 : A := (.tup [sA #[99, 97, 99, 104, 101, 32, 69, 32, 102, 119, 100, 109, 32, 45, 62, 32, 73, 32, 58, 32, 103, 105, 118, 101, 32, 100, 114, 111, 112], sA #[], bo false])
theorem q142_41 : EvQ (CX X1) 142 a142_41 r142_41 := evQ_fast 100000 (by kernel_rfl)
def big53 : A := (.tup [sA #[99, 97, 99, 104, 101, 32, 73, 83, 32, 97, 108, 111, 110, 101, 32, 45, 62, 32, 69, 32, 58, 32, 116, 97, 107, 101, 32, 100, 111, 110, 101, 32, 100, 111], sA #[], bo false])
def a142_42 : List A := [sA #[99, 97, 99, 104, 101, 32, 73, 83, 32, 97, 108, 111, 110, 101, 32, 45, 62, 32, 69, 32, 58, 32, 116, 97, 107, 101, 32, 100, 111, 110, 101, 32, 100, 111], sA #[35]]
def r142_42 : A := big53
theorem q142_42 : EvQ (CX X1) 142 a142_42 r142_42 := evQ_fast 100000 (by kernel_rfl)
def big54 : A := (.tup [sA #[104, 111, 109, 101, 32, 85, 110, 32, 103, 101, 116, 115, 32, 45, 62, 32, 69, 120, 32, 58, 32, 97, 108, 111, 110, 101, 32, 111, 119, 110, 32, 98, 117, 115, 121], sA #[], bo false])
def a142_43 : List A := [sA #[104, 111, 109, 101, 32, 85, 110, 32, 103, 101, 116, 115, 32, 45, 62, 32, 69, 120, 32, 58, 32, 97, 108, 111, 110, 101, 32, 111, 119, 110, 32, 98, 117, 115, 121], sA #[35]]
def r142_43 : A := big54
theorem q142_43 : EvQ (CX X1) 142 a142_43 r142_43 := evQ_fast 100000 (by kernel_rfl)
def a142_44 : List A := [sA #[99, 97, 99, 104, 101, 32, 77, 32, 102, 119, 100, 115, 32, 45, 62, 32, 83, 32, 58, 32, 103, 105, 118, 101, 32, 99, 111, 112, 121], sA #[35]]
def r142_44 : A := (.tup [sA #[99, 97, 99, 104, 101, 32, 77, 32, 102, 119, 100, 115, 32, 45, 62, 32, 83, 32, 58, 32, 103, 105, 118, 101, 32, 99, 111, 112, 121], sA #[], bo false])
theorem q142_44 : EvQ (CX X1) 142 a142_44 r142_44 := evQ_fast 100000 (by kernel_rfl)
def big55 : A := (.tup [sA #[99, 97, 99, 104, 101, 32, 77, 73, 32, 102, 119, 100, 115, 32, 45, 62, 32, 73, 73, 32, 58, 32, 103, 105, 118, 101, 32, 99, 111, 112, 121], sA #[], bo false])
def a142_45 : List A := [sA #[99, 97, 99, 104, 101, 32, 77, 73, 32, 102, 119, 100, 115, 32, 45, 62, 32, 73, 73, 32, 58, 32, 103, 105, 118, 101, 32, 99, 111, 112, 121], sA #[35]]
def r142_45 : A := big55
theorem q142_45 : EvQ (CX X1) 142 a142_45 r142_45 := evQ_fast 100000 (by kernel_rfl)
def big56 : A := (.tup [sA #[104, 111, 109, 101, 32, 69, 120, 32, 103, 101, 116, 115, 32, 45, 62, 32, 83, 104, 32, 58, 32, 102, 119, 100, 115, 32, 110, 111, 116, 101, 32, 98, 111, 116, 104, 32, 98, 117, 115, 121, 32, 116, 119, 105, 99, 101], sA #[], bo false])
def a142_46 : List A := [big42, sA #[35]]
def r142_46 : A := big56
theorem q142_46 : EvQ (CX X1) 142 a142_46 r142_46 := evQ_fast 100000 (by kernel_rfl)
def a142_47 : List A := [sA #[99, 97, 99, 104, 101, 32, 69, 32, 102, 119, 100, 115, 32, 45, 62, 32, 83, 32, 58, 32, 103, 105, 118, 101, 32, 99, 111, 112, 121], sA #[35]]
def r142_47 : A := (.tup [sA #[99, 97, 99, 104, 101, 32, 69, 32, 102, 119, 100, 115, 32, 45, 62, 32, 83, 32, 58, 32, 103, 105, 118, 101, 32, 99, 111, 112, 121], sA #[], bo false])
theorem q142_47 : EvQ (CX X1) 142 a142_47 r142_47 := evQ_fast 100000 (by kernel_rfl)
def mt142 : List (List A × A) := [(a142_0, r142_0), (a142_1, r142_1), (a142_2, r142_2), (a142_3, r142_3), (a142_4, r142_4), (a142_5, r142_5), (a142_6, r142_6), (a142_7, r142_7), (a142_8, r142_8), (a142_9, r142_9), (a142_10, r142_10), (a142_11, r142_11), (a142_12, r142_12), (a142_13, r142_13), (a142_14, r142_14), (a142_15, r142_15), (a142_16, r142_16), (a142_17, r142_17), (a142_18, r142_18), (a142_19, r142_19), (a142_20, r142_20), (a142_21, r142_21), (a142_22, r142_22), (a142_23, r142_23), (a142_24, r142_24), (a142_25, r142_25), (a142_26, r142_26), (a142_27, r142_27), (a142_28, r142_28), (a142_29, r142_29), (a142_30, r142_30), (a142_31, r142_31), (a142_32, r142_32), (a142_33, r142_33), (a142_34, r142_34), (a142_35, r142_35), (a142_36, r142_36), (a142_37, r142_37), (a142_38, r142_38), (a142_39, r142_39), (a142_40, r142_40), (a142_41, r142_41), (a142_42, r142_42), (a142_43, r142_43), (a142_44, r142_44), (a142_45, r142_45), (a142_46, r142_46), (a142_47, r142_47)]
theorem mt142_ok : ∀ p ∈ mt142, EvQ (CX X1) 142 p.1 p.2 := by
  unfold mt142
  simp only [List.forall_mem_cons, List.not_mem_nil, false_implies, implies_true, and_true]
  exact ⟨q142_0, q142_1, q142_2, q142_3, q142_4, q142_5, q142_6, q142_7, q142_8, q142_9, q142_10, q142_11, q142_12, q142_13, q142_14, q142_15, q142_16, q142_17, q142_18, q142_19, q142_20, q142_21, q142_22, q142_23, q142_24, q142_25, q142_26, q142_27, q142_28, q142_29, q142_30, q142_31, q142_32, q142_33, q142_34, q142_35, q142_36, q142_37, q142_38, q142_39, q142_40, q142_41, q142_42, q142_43, q142_44, q142_45, q142_46, q142_47⟩
def X2 : FuncId → List A → Option A := orX 143 mt143 (orX 159 mt159 (orX 142 mt142 X1))
theorem X2_ok : QOk Cx.T Tryz.prog X2 := (orX_ok X1_ok mt143_ok (orX_ok X1_ok mt159_ok (orX_ok X1_ok mt142_ok X1_ok)))
end Go.Proofs.YtnhknhniemfnjaaGreatDoor.Ev
namespace Go.Proofs.YtnhknhniemfnjaaGreatDoor.Ev
open Go Go.RowKit
set_option maxRecDepth 1000000
def big57 : A := sA #[116, 97, 98, 108, 101, 32, 109, 101, 115, 105, 10, 10, 99, 97, 99, 104, 101, 32, 73, 32, 108, 111, 97, 100, 32, 45, 62, 32, 73, 83, 32, 58, 32, 97, 115, 107, 10, 99, 97, 99, 104, 101, 32, 73, 32, 115, 116, 111, 114, 101, 32, 45, 62, 32, 73, 77, 32, 58, 32, 97, 115, 107, 109, 10, 99, 97, 99, 104, 101, 32, 73, 32, 105, 110, 118, 32, 45, 62, 32, 73, 32, 58, 32, 105, 110, 118, 10, 99, 97, 99, 104, 101, 32, 83, 32, 108, 111, 97, 100, 32, 45, 62, 32, 83, 32, 58, 32, 100, 111, 10, 99, 97, 99, 104, 101, 32, 83, 32, 115, 116, 111, 114, 101, 32, 45, 62, 32, 83, 77, 32, 58, 32, 97, 115, 107, 109, 10, 99, 97, 99, 104, 101, 32, 83, 32, 101, 118, 105, 99, 116, 32, 45, 62, 32, 73, 32, 58, 32, 100, 114, 111, 112, 10, 99, 97, 99, 104, 101, 32, 83, 32, 105, 110, 118, 32, 45, 62, 32, 73, 32, 58, 32, 105, 110, 118, 32, 100, 114, 111, 112, 10, 99, 97, 99, 104, 101, 32, 77, 32, 108, 111, 97, 100, 32, 45, 62, 32, 77, 32, 58, 32, 100, 111, 10, 99, 97, 99, 104, 101, 32, 77, 32, 115, 116, 111, 114, 101, 32, 45, 62, 32, 77, 32, 58, 32, 100, 111, 10, 99, 97, 99, 104, 101, 32, 77, 32, 101, 118, 105, 99, 116, 32, 45, 62, 32, 77, 73, 32, 58, 32, 112, 117, 116, 10, 99, 97, 99, 104, 101, 32, 77, 32, 102, 119, 100, 109, 32, 45, 62, 32, 73, 32, 58, 32, 103, 105, 118, 101, 32, 100, 114, 111, 112, 10, 99, 97, 99, 104, 101, 32, 73, 83, 32, 105, 110, 118, 32, 45, 62, 32, 73, 83, 32, 58, 32, 105, 110, 118, 10, 99, 97, 99, 104, 101, 32, 73, 83, 32, 118, 97, 108, 117, 101, 32, 45, 62, 32, 83, 32, 58, 32, 116, 97, 107, 101, 32, 100, 111, 110, 101, 32, 100, 111, 10, 99, 97, 99, 104, 101, 32, 73, 77, 32, 105, 110, 118, 32, 45, 62, 32, 73, 77, 32, 58, 32, 105, 110, 118, 10, 99, 97, 99, 104, 101, 32, 73, 77, 32, 118, 97, 108, 117, 101, 32, 45, 62, 32, 77, 32, 58, 32, 116, 97, 107, 101, 32, 100, 111, 110, 101, 32, 100, 111, 10, 99, 97, 99, 104, 101, 32, 73, 77, 32, 109, 111, 114, 101, 32, 45, 62, 32, 73, 65, 32, 58, 32, 116, 97, 107, 101, 10, 99, 97, 99, 104, 101, 32, 73, 77, 32, 97, 99, 107, 32, 45, 62, 32, 73, 77, 10, 99, 97, 99, 104, 101, 32, 83, 77, 32, 105, 110, 118, 32, 45, 62, 32, 73, 77, 32, 58, 32, 105, 110, 118, 10, 99, 97, 99, 104, 101, 32, 83, 77, 32, 118, 97, 108, 117, 101, 32, 45, 62, 32, 77, 32, 58, 32, 116, 97, 107, 101, 32, 100, 111, 110, 101, 32, 100, 111, 10, 99, 97, 99, 104, 101, 32, 83, 77, 32, 109, 111, 114, 101, 32, 45, 62, 32, 73, 65, 32, 58, 32, 116, 97, 107, 101, 10, 99, 97, 99, 104, 101, 32, 83, 77, 32, 97, 99, 107, 32, 45, 62, 32, 83, 77, 10, 99, 97, 99, 104, 101, 32, 73, 65, 32, 97, 99, 107, 32, 45, 62, 32, 73, 65, 10, 99, 97, 99, 104, 101, 32, 73, 65, 32, 108, 97, 115, 116, 32, 45, 62, 32, 77, 32, 58, 32, 100, 111, 110, 101, 32, 100, 111, 10, 99, 97, 99, 104, 101, 32, 77, 73, 32, 102, 119, 100, 109, 32, 45, 62, 32, 73, 73, 32, 58, 32, 103, 105, 118, 101, 10, 99, 97, 99, 104, 101, 32, 77, 73, 32, 105, 110, 118, 32, 45, 62, 32, 73, 73, 32, 58, 32, 105, 110, 118, 10, 99, 97, 99, 104, 101, 32, 77, 73, 32, 112, 117, 116, 32, 45, 62, 32, 73, 32, 58, 32, 100, 114, 111, 112, 10, 99, 97, 99, 104, 101, 32, 73, 73, 32, 105, 110, 118, 32, 45, 62, 32, 73, 73, 32, 58, 32, 105, 110, 118, 10, 99, 97, 99, 104, 101, 32, 73, 73, 32, 112, 117, 116, 32, 45, 62, 32, 73, 32, 58, 32, 100, 114, 111, 112, 10, 104, 111, 109, 101, 32, 85, 110, 32, 103, 101, 116, 109, 32, 45, 62, 32, 69, 120, 32, 58, 32, 109, 101, 109, 32, 111, 119, 110, 32, 98, 117, 115, 121, 10, 104, 111, 109, 101, 32, 85, 110, 32, 115, 116, 97, 108, 101, 32, 45, 62, 32, 85, 110, 32, 58, 32, 98, 97, 99, 107, 10, 104, 111, 109, 101, 32, 83, 104, 32, 103, 101, 116, 115, 32, 45, 62, 32, 83, 104, 32, 58, 32, 109, 101, 109, 32, 110, 111, 116, 101, 32, 98, 117, 115, 121, 10, 104, 111, 109, 101, 32, 83, 104, 32, 103, 101, 116, 109, 32, 45, 62, 32, 69, 120, 32, 58, 32, 105, 110, 118, 115, 32, 109, 101, 109, 32, 99, 108, 101, 97, 114, 32, 111, 119, 110, 32, 98, 117, 115, 121, 10, 104, 111, 109, 101, 32, 83, 104, 32, 115, 116, 97, 108, 101, 32, 45, 62, 32, 83, 104, 32, 58, 32, 98, 97, 99, 107, 10, 104, 111, 109, 101, 32, 69, 120, 32, 103, 101, 116, 109, 32, 45, 62, 32, 69, 120, 32, 58, 32, 102, 119, 100, 109, 32, 111, 119, 110, 32, 98, 117, 115, 121, 10, 104, 111, 109, 101, 32, 69, 120, 32, 98, 97, 99, 107, 32, 45, 62, 32, 85, 110, 32, 58, 32, 119, 114, 105, 116, 101, 32, 98, 97, 99, 107, 32, 102, 114, 101, 101, 10, 104, 111, 109, 101, 32, 69, 120, 32, 115, 116, 97, 108, 101, 32, 45, 62, 32, 69, 120, 32, 58, 32, 98, 97, 99, 107, 10, 10, 99, 97, 99, 104, 101, 32, 69, 32, 108, 111, 97, 100, 32, 45, 62, 32, 69, 32, 58, 32, 100, 111, 10, 99, 97, 99, 104, 101, 32, 69, 32, 115, 116, 111, 114, 101, 32, 45, 62, 32, 77, 32, 58, 32, 100, 111, 10, 99, 97, 99, 104, 101, 32, 69, 32, 101, 118, 105, 99, 116, 32, 45, 62, 32, 77, 73, 32, 58, 32, 112, 117, 116, 10, 99, 97, 99, 104, 101, 32, 69, 32, 102, 119, 100, 109, 32, 45, 62, 32, 73, 32, 58, 32, 103, 105, 118, 101, 32, 100, 114, 111, 112, 10, 99, 97, 99, 104, 101, 32, 73, 83, 32, 97, 108, 111, 110, 101, 32, 45, 62, 32, 69, 32, 58, 32, 116, 97, 107, 101, 32, 100, 111, 110, 101, 32, 100, 111, 10, 104, 111, 109, 101, 32, 85, 110, 32, 103, 101, 116, 115, 32, 45, 62, 32, 69, 120, 32, 58, 32, 97, 108, 111, 110, 101, 32, 111, 119, 110, 32, 98, 117, 115, 121, 10, 10, 99, 97, 99, 104, 101, 32, 77, 32, 102, 119, 100, 115, 32, 45, 62, 32, 83, 32, 58, 32, 103, 105, 118, 101, 32, 99, 111, 112, 121, 10, 99, 97, 99, 104, 101, 32, 77, 73, 32, 102, 119, 100, 115, 32, 45, 62, 32, 73, 73, 32, 58, 32, 103, 105, 118, 101, 32, 99, 111, 112, 121, 10, 104, 111, 109, 101, 32, 69, 120, 32, 103, 101, 116, 115, 32, 45, 62, 32, 83, 104, 32, 58, 32, 102, 119, 100, 115, 32, 110, 111, 116, 101, 32, 98, 111, 116, 104, 32, 98, 117, 115, 121, 32, 116, 119, 105, 99, 101, 10, 10, 99, 97, 99, 104, 101, 32, 69, 32, 102, 119, 100, 115, 32, 45, 62, 32, 83, 32, 58, 32, 103, 105, 118, 101, 32, 99, 111, 112, 121, 10]
def big58 : A := (.tup [(.agg [sA #[109, 101, 115, 105], i8 1, i8 5, uw 2, i8 1, i8 6, uw 4, i8 0, i8 0, uw 0, i8 0, i8 0, uw 0, i8 0, i8 0, uw 0, i8 1, i8 0, uw 64, i8 0, i8 0, uw 0, i8 0, i8 0, uw 0, i8 0, i8 0, uw 0, i8 0, i8 0, uw 0, i8 0, i8 0, uw 0, i8 0, i8 0, uw 0, i8 0, i8 0, uw 0, i8 0, i8 0, uw 0, i8 1, i8 1, uw 256, i8 1, i8 7, uw 4, i8 1, i8 0, uw 512, i8 0, i8 0, uw 0, i8 0, i8 0, uw 0, i8 1, i8 0, uw 576, i8 0, i8 0, uw 0, i8 0, i8 0, uw 0, i8 0, i8 0, uw 0, i8 0, i8 0, uw 0, i8 0, i8 0, uw 0, i8 0, i8 0, uw 0, i8 0, i8 0, uw 0, i8 0, i8 0, uw 0, i8 1, i8 2, uw 256, i8 1, i8 4, uw 256, i8 1, i8 10, uw 8, i8 1, i8 1, uw 48, i8 1, i8 0, uw 528, i8 0, i8 0, uw 0, i8 0, i8 0, uw 0, i8 0, i8 0, uw 0, i8 0, i8 0, uw 0, i8 0, i8 0, uw 0, i8 0, i8 0, uw 0, i8 0, i8 0, uw 0, i8 0, i8 0, uw 0, i8 0, i8 0, uw 0, i8 0, i8 0, uw 0, i8 0, i8 0, uw 0, i8 0, i8 0, uw 0, i8 0, i8 0, uw 0, i8 0, i8 0, uw 0, i8 0, i8 0, uw 0, i8 0, i8 0, uw 0, i8 0, i8 0, uw 0, i8 0, i8 0, uw 0, i8 0, i8 0, uw 0, i8 0, i8 0, uw 0, i8 0, i8 0, uw 0, i8 0, i8 0, uw 0, i8 0, i8 0, uw 0, i8 1, i8 4, uw 256, i8 1, i8 4, uw 256, i8 1, i8 10, uw 8, i8 1, i8 1, uw 48, i8 1, i8 0, uw 528, i8 0, i8 0, uw 0, i8 0, i8 0, uw 0, i8 0, i8 0, uw 0, i8 0, i8 0, uw 0, i8 0, i8 0, uw 0, i8 0, i8 0, uw 0, i8 0, i8 0, uw 0, i8 0, i8 0, uw 0, i8 0, i8 0, uw 0, i8 0, i8 0, uw 0, i8 0, i8 0, uw 0, i8 0, i8 0, uw 0, i8 0, i8 0, uw 0, i8 0, i8 0, uw 0, i8 1, i8 5, uw 64, i8 0, i8 0, uw 0, i8 1, i8 1, uw 385, i8 1, i8 2, uw 385, i8 0, i8 0, uw 0, i8 0, i8 0, uw 0, i8 0, i8 0, uw 0, i8 0, i8 0, uw 0, i8 0, i8 0, uw 0, i8 0, i8 0, uw 0, i8 0, i8 0, uw 0, i8 0, i8 0, uw 0, i8 0, i8 0, uw 0, i8 0, i8 0, uw 0, i8 1, i8 6, uw 64, i8 0, i8 0, uw 0, i8 1, i8 4, uw 385, i8 0, i8 0, uw 0, i8 1, i8 9, uw 1, i8 0, i8 0, uw 0, i8 0, i8 0, uw 0, i8 1, i8 6, uw 0, i8 0, i8 0, uw 0, i8 0, i8 0, uw 0, i8 0, i8 0, uw 0, i8 0, i8 0, uw 0, i8 0, i8 0, uw 0, i8 0, i8 0, uw 0, i8 1, i8 6, uw 64, i8 0, i8 0, uw 0, i8 1, i8 4, uw 385, i8 0, i8 0, uw 0, i8 1, i8 9, uw 1, i8 0, i8 0, uw 0, i8 0, i8 0, uw 0, i8 1, i8 7, uw 0, i8 0, i8 0, uw 0, i8 0, i8 0, uw 0, i8 0, i8 0, uw 0, i8 0, i8 0, uw 0, i8 0, i8 0, uw 0, i8 0, i8 0, uw 0, i8 0, i8 0, uw 0, i8 0, i8 0, uw 0, i8 0, i8 0, uw 0, i8 0, i8 0, uw 0, i8 0, i8 0, uw 0, i8 0, i8 0, uw 0, i8 0, i8 0, uw 0, i8 0, i8 0, uw 0, i8 0, i8 0, uw 0, i8 0, i8 0, uw 0, i8 0, i8 0, uw 0, i8 0, i8 0, uw 0, i8 0, i8 0, uw 0, i8 0, i8 0, uw 0, i8 0, i8 0, uw 0, i8 0, i8 0, uw 0, i8 0, i8 0, uw 0, i8 0, i8 0, uw 0, i8 0, i8 0, uw 0, i8 0, i8 0, uw 0, i8 0, i8 0, uw 0, i8 1, i8 9, uw 0, i8 1, i8 4, uw 384, i8 0, i8 0, uw 0, i8 0, i8 0, uw 0, i8 0, i8 0, uw 0, i8 1, i8 11, uw 48, i8 1, i8 11, uw 16, i8 1, i8 11, uw 64, i8 1, i8 0, uw 512, i8 0, i8 0, uw 0, i8 0, i8 0, uw 0, i8 0, i8 0, uw 0, i8 0, i8 0, uw 0, i8 0, i8 0, uw 0, i8 0, i8 0, uw 0, i8 0, i8 0, uw 0, i8 0, i8 0, uw 0, i8 0, i8 0, uw 0, i8 0, i8 0, uw 0, i8 0, i8 0, uw 0, i8 0, i8 0, uw 0, i8 1, i8 11, uw 64, i8 1, i8 0, uw 512, i8 0, i8 0, uw 0, i8 0, i8 0, uw 0, i8 0, i8 0, uw 0, i8 0, i8 0, uw 0, i8 0, i8 0, uw 0, i8 0, i8 0, uw 0, i8 0, i8 0, uw 0, i8 1, i8 2, uw 10244, i8 1, i8 2, uw 10242, i8 0, i8 0, uw 0, i8 0, i8 0, uw 0, i8 1, i8 0, uw 128, i8 1, i8 1, uw 8706, i8 1, i8 2, uw 10499, i8 0, i8 0, uw 0, i8 0, i8 0, uw 0, i8 1, i8 1, uw 128, i8 1, i8 1, uw 26120, i8 1, i8 2, uw 10256, i8 0, i8 0, uw 0, i8 1, i8 0, uw 4288, i8 1, i8 2, uw 128, i8 0, i8 0, uw 0, i8 0, i8 0, uw 0, i8 0, i8 0, uw 0, i8 0, i8 0, uw 0, i8 0, i8 0, uw 0]), i64 0, i64 0])
def a71_0 : List A := [big57]
def r71_0 : A := big58
theorem q71_0 : EvQ (CX X2) 71 a71_0 r71_0 := evQ_fast 100000 (by kernel_rfl)
def mt71 : List (List A × A) := [(a71_0, r71_0)]
theorem mt71_ok : ∀ p ∈ mt71, EvQ (CX X2) 71 p.1 p.2 := by
  unfold mt71
  simp only [List.forall_mem_cons, List.not_mem_nil, false_implies, implies_true, and_true]
  exact q71_0
end Go.Proofs.YtnhknhniemfnjaaGreatDoor.Ev
namespace Go.Proofs.YtnhknhniemfnjaaGreatDoor.Ev
open Go Go.RowKit
set_option maxRecDepth 1000000
def big59 : A := (.agg [sA #[109, 101, 115, 105], i8 1, i8 5, uw 2, i8 1, i8 6, uw 4, i8 0, i8 0, uw 0, i8 0, i8 0, uw 0, i8 0, i8 0, uw 0, i8 1, i8 0, uw 64, i8 0, i8 0, uw 0, i8 0, i8 0, uw 0, i8 0, i8 0, uw 0, i8 0, i8 0, uw 0, i8 0, i8 0, uw 0, i8 0, i8 0, uw 0, i8 0, i8 0, uw 0, i8 0, i8 0, uw 0, i8 1, i8 1, uw 256, i8 1, i8 7, uw 4, i8 1, i8 0, uw 512, i8 0, i8 0, uw 0, i8 0, i8 0, uw 0, i8 1, i8 0, uw 576, i8 0, i8 0, uw 0, i8 0, i8 0, uw 0, i8 0, i8 0, uw 0, i8 0, i8 0, uw 0, i8 0, i8 0, uw 0, i8 0, i8 0, uw 0, i8 0, i8 0, uw 0, i8 0, i8 0, uw 0, i8 1, i8 2, uw 256, i8 1, i8 4, uw 256, i8 1, i8 10, uw 8, i8 1, i8 1, uw 48, i8 1, i8 0, uw 528, i8 0, i8 0, uw 0, i8 0, i8 0, uw 0, i8 0, i8 0, uw 0, i8 0, i8 0, uw 0, i8 0, i8 0, uw 0, i8 0, i8 0, uw 0, i8 0, i8 0, uw 0, i8 0, i8 0, uw 0, i8 0, i8 0, uw 0, i8 0, i8 0, uw 0, i8 0, i8 0, uw 0, i8 0, i8 0, uw 0, i8 0, i8 0, uw 0, i8 0, i8 0, uw 0, i8 0, i8 0, uw 0, i8 0, i8 0, uw 0, i8 0, i8 0, uw 0, i8 0, i8 0, uw 0, i8 0, i8 0, uw 0, i8 0, i8 0, uw 0, i8 0, i8 0, uw 0, i8 0, i8 0, uw 0, i8 0, i8 0, uw 0, i8 1, i8 4, uw 256, i8 1, i8 4, uw 256, i8 1, i8 10, uw 8, i8 1, i8 1, uw 48, i8 1, i8 0, uw 528, i8 0, i8 0, uw 0, i8 0, i8 0, uw 0, i8 0, i8 0, uw 0, i8 0, i8 0, uw 0, i8 0, i8 0, uw 0, i8 0, i8 0, uw 0, i8 0, i8 0, uw 0, i8 0, i8 0, uw 0, i8 0, i8 0, uw 0, i8 0, i8 0, uw 0, i8 0, i8 0, uw 0, i8 0, i8 0, uw 0, i8 0, i8 0, uw 0, i8 0, i8 0, uw 0, i8 1, i8 5, uw 64, i8 0, i8 0, uw 0, i8 1, i8 1, uw 385, i8 1, i8 2, uw 385, i8 0, i8 0, uw 0, i8 0, i8 0, uw 0, i8 0, i8 0, uw 0, i8 0, i8 0, uw 0, i8 0, i8 0, uw 0, i8 0, i8 0, uw 0, i8 0, i8 0, uw 0, i8 0, i8 0, uw 0, i8 0, i8 0, uw 0, i8 0, i8 0, uw 0, i8 1, i8 6, uw 64, i8 0, i8 0, uw 0, i8 1, i8 4, uw 385, i8 0, i8 0, uw 0, i8 1, i8 9, uw 1, i8 0, i8 0, uw 0, i8 0, i8 0, uw 0, i8 1, i8 6, uw 0, i8 0, i8 0, uw 0, i8 0, i8 0, uw 0, i8 0, i8 0, uw 0, i8 0, i8 0, uw 0, i8 0, i8 0, uw 0, i8 0, i8 0, uw 0, i8 1, i8 6, uw 64, i8 0, i8 0, uw 0, i8 1, i8 4, uw 385, i8 0, i8 0, uw 0, i8 1, i8 9, uw 1, i8 0, i8 0, uw 0, i8 0, i8 0, uw 0, i8 1, i8 7, uw 0, i8 0, i8 0, uw 0, i8 0, i8 0, uw 0, i8 0, i8 0, uw 0, i8 0, i8 0, uw 0, i8 0, i8 0, uw 0, i8 0, i8 0, uw 0, i8 0, i8 0, uw 0, i8 0, i8 0, uw 0, i8 0, i8 0, uw 0, i8 0, i8 0, uw 0, i8 0, i8 0, uw 0, i8 0, i8 0, uw 0, i8 0, i8 0, uw 0, i8 0, i8 0, uw 0, i8 0, i8 0, uw 0, i8 0, i8 0, uw 0, i8 0, i8 0, uw 0, i8 0, i8 0, uw 0, i8 0, i8 0, uw 0, i8 0, i8 0, uw 0, i8 0, i8 0, uw 0, i8 0, i8 0, uw 0, i8 0, i8 0, uw 0, i8 0, i8 0, uw 0, i8 0, i8 0, uw 0, i8 0, i8 0, uw 0, i8 0, i8 0, uw 0, i8 1, i8 9, uw 0, i8 1, i8 4, uw 384, i8 0, i8 0, uw 0, i8 0, i8 0, uw 0, i8 0, i8 0, uw 0, i8 1, i8 11, uw 48, i8 1, i8 11, uw 16, i8 1, i8 11, uw 64, i8 1, i8 0, uw 512, i8 0, i8 0, uw 0, i8 0, i8 0, uw 0, i8 0, i8 0, uw 0, i8 0, i8 0, uw 0, i8 0, i8 0, uw 0, i8 0, i8 0, uw 0, i8 0, i8 0, uw 0, i8 0, i8 0, uw 0, i8 0, i8 0, uw 0, i8 0, i8 0, uw 0, i8 0, i8 0, uw 0, i8 0, i8 0, uw 0, i8 1, i8 11, uw 64, i8 1, i8 0, uw 512, i8 0, i8 0, uw 0, i8 0, i8 0, uw 0, i8 0, i8 0, uw 0, i8 0, i8 0, uw 0, i8 0, i8 0, uw 0, i8 0, i8 0, uw 0, i8 0, i8 0, uw 0, i8 1, i8 2, uw 10244, i8 1, i8 2, uw 10242, i8 0, i8 0, uw 0, i8 0, i8 0, uw 0, i8 1, i8 0, uw 128, i8 1, i8 1, uw 8706, i8 1, i8 2, uw 10499, i8 0, i8 0, uw 0, i8 0, i8 0, uw 0, i8 1, i8 1, uw 128, i8 1, i8 1, uw 26120, i8 1, i8 2, uw 10256, i8 0, i8 0, uw 0, i8 1, i8 0, uw 4288, i8 1, i8 2, uw 128, i8 0, i8 0, uw 0, i8 0, i8 0, uw 0, i8 0, i8 0, uw 0, i8 0, i8 0, uw 0, i8 0, i8 0, uw 0])
def a113_0 : List A := [big59]
def r113_0 : A := bo true
theorem q113_0 : EvQ (CX X1) 113 a113_0 r113_0 := evQ_fast 100000 (by kernel_rfl)
def big60 : A := (.agg [sA #[109, 101, 115, 105], i8 1, i8 5, uw 2, i8 1, i8 6, uw 4, i8 3, i8 0, uw 0, i8 3, i8 0, uw 0, i8 3, i8 0, uw 0, i8 1, i8 0, uw 64, i8 3, i8 0, uw 0, i8 3, i8 0, uw 0, i8 3, i8 0, uw 0, i8 3, i8 0, uw 0, i8 3, i8 0, uw 0, i8 3, i8 0, uw 0, i8 3, i8 0, uw 0, i8 3, i8 0, uw 0, i8 1, i8 1, uw 256, i8 1, i8 7, uw 4, i8 1, i8 0, uw 512, i8 3, i8 0, uw 0, i8 3, i8 0, uw 0, i8 1, i8 0, uw 576, i8 3, i8 0, uw 0, i8 3, i8 0, uw 0, i8 3, i8 0, uw 0, i8 3, i8 0, uw 0, i8 3, i8 0, uw 0, i8 3, i8 0, uw 0, i8 3, i8 0, uw 0, i8 3, i8 0, uw 0, i8 1, i8 2, uw 256, i8 1, i8 4, uw 256, i8 1, i8 10, uw 8, i8 1, i8 1, uw 48, i8 1, i8 0, uw 528, i8 3, i8 0, uw 0, i8 3, i8 0, uw 0, i8 3, i8 0, uw 0, i8 3, i8 0, uw 0, i8 3, i8 0, uw 0, i8 3, i8 0, uw 0, i8 3, i8 0, uw 0, i8 3, i8 0, uw 0, i8 3, i8 0, uw 0, i8 3, i8 0, uw 0, i8 3, i8 0, uw 0, i8 3, i8 0, uw 0, i8 3, i8 0, uw 0, i8 3, i8 0, uw 0, i8 3, i8 0, uw 0, i8 3, i8 0, uw 0, i8 3, i8 0, uw 0, i8 3, i8 0, uw 0, i8 3, i8 0, uw 0, i8 3, i8 0, uw 0, i8 3, i8 0, uw 0, i8 3, i8 0, uw 0, i8 3, i8 0, uw 0, i8 1, i8 4, uw 256, i8 1, i8 4, uw 256, i8 1, i8 10, uw 8, i8 1, i8 1, uw 48, i8 1, i8 0, uw 528, i8 3, i8 0, uw 0, i8 3, i8 0, uw 0, i8 3, i8 0, uw 0, i8 3, i8 0, uw 0, i8 3, i8 0, uw 0, i8 3, i8 0, uw 0, i8 3, i8 0, uw 0, i8 3, i8 0, uw 0, i8 3, i8 0, uw 0, i8 2, i8 0, uw 0, i8 2, i8 0, uw 0, i8 2, i8 0, uw 0, i8 3, i8 0, uw 0, i8 3, i8 0, uw 0, i8 1, i8 5, uw 64, i8 3, i8 0, uw 0, i8 1, i8 1, uw 385, i8 1, i8 2, uw 385, i8 3, i8 0, uw 0, i8 3, i8 0, uw 0, i8 3, i8 0, uw 0, i8 3, i8 0, uw 0, i8 3, i8 0, uw 0, i8 2, i8 0, uw 0, i8 2, i8 0, uw 0, i8 2, i8 0, uw 0, i8 3, i8 0, uw 0, i8 3, i8 0, uw 0, i8 1, i8 6, uw 64, i8 3, i8 0, uw 0, i8 1, i8 4, uw 385, i8 3, i8 0, uw 0, i8 1, i8 9, uw 1, i8 3, i8 0, uw 0, i8 3, i8 0, uw 0, i8 1, i8 6, uw 0, i8 3, i8 0, uw 0, i8 2, i8 0, uw 0, i8 2, i8 0, uw 0, i8 2, i8 0, uw 0, i8 3, i8 0, uw 0, i8 3, i8 0, uw 0, i8 1, i8 6, uw 64, i8 3, i8 0, uw 0, i8 1, i8 4, uw 385, i8 3, i8 0, uw 0, i8 1, i8 9, uw 1, i8 3, i8 0, uw 0, i8 3, i8 0, uw 0, i8 1, i8 7, uw 0, i8 3, i8 0, uw 0, i8 3, i8 0, uw 0, i8 3, i8 0, uw 0, i8 3, i8 0, uw 0, i8 3, i8 0, uw 0, i8 3, i8 0, uw 0, i8 3, i8 0, uw 0, i8 3, i8 0, uw 0, i8 3, i8 0, uw 0, i8 3, i8 0, uw 0, i8 3, i8 0, uw 0, i8 3, i8 0, uw 0, i8 3, i8 0, uw 0, i8 3, i8 0, uw 0, i8 3, i8 0, uw 0, i8 2, i8 0, uw 0, i8 2, i8 0, uw 0, i8 2, i8 0, uw 0, i8 3, i8 0, uw 0, i8 3, i8 0, uw 0, i8 3, i8 0, uw 0, i8 3, i8 0, uw 0, i8 3, i8 0, uw 0, i8 3, i8 0, uw 0, i8 3, i8 0, uw 0, i8 3, i8 0, uw 0, i8 3, i8 0, uw 0, i8 1, i8 9, uw 0, i8 1, i8 4, uw 384, i8 2, i8 0, uw 0, i8 2, i8 0, uw 0, i8 2, i8 0, uw 0, i8 1, i8 11, uw 48, i8 1, i8 11, uw 16, i8 1, i8 11, uw 64, i8 1, i8 0, uw 512, i8 3, i8 0, uw 0, i8 3, i8 0, uw 0, i8 3, i8 0, uw 0, i8 3, i8 0, uw 0, i8 3, i8 0, uw 0, i8 3, i8 0, uw 0, i8 3, i8 0, uw 0, i8 2, i8 0, uw 0, i8 2, i8 0, uw 0, i8 2, i8 0, uw 0, i8 3, i8 0, uw 0, i8 3, i8 0, uw 0, i8 1, i8 11, uw 64, i8 1, i8 0, uw 512, i8 3, i8 0, uw 0, i8 3, i8 0, uw 0, i8 3, i8 0, uw 0, i8 3, i8 0, uw 0, i8 3, i8 0, uw 0, i8 3, i8 0, uw 0, i8 3, i8 0, uw 0, i8 1, i8 2, uw 10244, i8 1, i8 2, uw 10242, i8 3, i8 0, uw 0, i8 3, i8 0, uw 0, i8 1, i8 0, uw 128, i8 1, i8 1, uw 8706, i8 1, i8 2, uw 10499, i8 3, i8 0, uw 0, i8 3, i8 0, uw 0, i8 1, i8 1, uw 128, i8 1, i8 1, uw 26120, i8 1, i8 2, uw 10256, i8 3, i8 0, uw 0, i8 1, i8 0, uw 4288, i8 1, i8 2, uw 128, i8 3, i8 0, uw 0, i8 3, i8 0, uw 0, i8 3, i8 0, uw 0, i8 3, i8 0, uw 0, i8 3, i8 0, uw 0])
def a113_1 : List A := [big60]
def r113_1 : A := bo true
theorem q113_1 : EvQ (CX X1) 113 a113_1 r113_1 := evQ_fast 100000 (by kernel_rfl)
def mt113 : List (List A × A) := [(a113_0, r113_0), (a113_1, r113_1)]
theorem mt113_ok : ∀ p ∈ mt113, EvQ (CX X1) 113 p.1 p.2 := by
  unfold mt113
  simp only [List.forall_mem_cons, List.not_mem_nil, false_implies, implies_true, and_true]
  exact ⟨q113_0, q113_1⟩
def a28_0 : List A := [(.agg [i64 2, i64 1, i64 1, i64 1, i64 1])]
def r28_0 : A := bo true
theorem q28_0 : EvQ (CX X1) 28 a28_0 r28_0 := evQ_fast 100000 (by kernel_rfl)
def mt28 : List (List A × A) := [(a28_0, r28_0)]
theorem mt28_ok : ∀ p ∈ mt28, EvQ (CX X1) 28 p.1 p.2 := by
  unfold mt28
  simp only [List.forall_mem_cons, List.not_mem_nil, false_implies, implies_true, and_true]
  exact q28_0
def X3 : FuncId → List A → Option A := orX 71 mt71 (orX 113 mt113 (orX 28 mt28 X1))
theorem X3_ok : QOk Cx.T Tryz.prog X3 := (orX_ok X2_ok mt71_ok (orX_ok X1_ok mt113_ok (orX_ok X1_ok mt28_ok X1_ok)))
end Go.Proofs.YtnhknhniemfnjaaGreatDoor.Ev
namespace Go.Proofs.YtnhknhniemfnjaaGreatDoor.Ev
open Go Go.RowKit
set_option maxRecDepth 1000000
def big61 : A := (.sl 142 [bo false, i8 0, i8 2, bo false, i8 0, i8 3, bo false, i8 0, i8 4, bo false, i8 0, i8 6, bo false, i8 0, i8 7, bo false, i8 0, i8 8, bo false, i8 0, i8 9, bo false, i8 0, i8 10, bo false, i8 0, i8 11, bo false, i8 0, i8 12, bo false, i8 0, i8 13, bo false, i8 1, i8 3, bo false, i8 1, i8 4, bo false, i8 1, i8 6, bo false, i8 1, i8 7, bo false, i8 1, i8 8, bo false, i8 1, i8 9, bo false, i8 1, i8 10, bo false, i8 1, i8 11, bo false, i8 1, i8 12, bo false, i8 1, i8 13, bo false, i8 2, i8 5, bo false, i8 2, i8 6, bo false, i8 2, i8 7, bo false, i8 2, i8 8, bo false, i8 2, i8 9, bo false, i8 2, i8 10, bo false, i8 2, i8 11, bo false, i8 2, i8 12, bo false, i8 2, i8 13, bo false, i8 3, i8 0, bo false, i8 3, i8 1, bo false, i8 3, i8 2, bo false, i8 3, i8 3, bo false, i8 3, i8 4, bo false, i8 3, i8 5, bo false, i8 3, i8 6, bo false, i8 3, i8 7, bo false, i8 3, i8 8, bo false, i8 3, i8 9, bo false, i8 3, i8 10, bo false, i8 3, i8 11, bo false, i8 3, i8 12, bo false, i8 3, i8 13, bo false, i8 4, i8 5, bo false, i8 4, i8 6, bo false, i8 4, i8 7, bo false, i8 4, i8 8, bo false, i8 4, i8 9, bo false, i8 4, i8 10, bo false, i8 4, i8 11, bo false, i8 4, i8 12, bo false, i8 4, i8 13, bo false, i8 5, i8 0, bo false, i8 5, i8 1, bo false, i8 5, i8 2, bo false, i8 5, i8 3, bo false, i8 5, i8 4, bo false, i8 5, i8 6, bo false, i8 5, i8 9, bo false, i8 5, i8 10, bo false, i8 5, i8 11, bo false, i8 5, i8 12, bo false, i8 5, i8 13, bo false, i8 6, i8 0, bo false, i8 6, i8 1, bo false, i8 6, i8 2, bo false, i8 6, i8 3, bo false, i8 6, i8 4, bo false, i8 6, i8 6, bo false, i8 6, i8 8, bo false, i8 6, i8 10, bo false, i8 6, i8 11, bo false, i8 6, i8 13, bo false, i8 7, i8 0, bo false, i8 7, i8 1, bo false, i8 7, i8 2, bo false, i8 7, i8 3, bo false, i8 7, i8 4, bo false, i8 7, i8 6, bo false, i8 7, i8 8, bo false, i8 7, i8 10, bo false, i8 7, i8 11, bo false, i8 7, i8 13, bo false, i8 8, i8 0, bo false, i8 8, i8 1, bo false, i8 8, i8 2, bo false, i8 8, i8 3, bo false, i8 8, i8 4, bo false, i8 8, i8 5, bo false, i8 8, i8 6, bo false, i8 8, i8 7, bo false, i8 8, i8 8, bo false, i8 8, i8 9, bo false, i8 8, i8 10, bo false, i8 8, i8 11, bo false, i8 8, i8 12, bo false, i8 8, i8 13, bo false, i8 9, i8 0, bo false, i8 9, i8 1, bo false, i8 9, i8 2, bo false, i8 9, i8 3, bo false, i8 9, i8 4, bo false, i8 9, i8 5, bo false, i8 9, i8 6, bo false, i8 9, i8 7, bo false, i8 9, i8 8, bo false, i8 9, i8 9, bo false, i8 9, i8 10, bo false, i8 9, i8 11, bo false, i8 10, i8 0, bo false, i8 10, i8 1, bo false, i8 10, i8 2, bo false, i8 10, i8 7, bo false, i8 10, i8 8, bo false, i8 10, i8 9, bo false, i8 10, i8 10, bo false, i8 10, i8 11, bo false, i8 10, i8 12, bo false, i8 10, i8 13, bo false, i8 11, i8 0, bo false, i8 11, i8 1, bo false, i8 11, i8 2, bo false, i8 11, i8 3, bo false, i8 11, i8 4, bo false, i8 11, i8 7, bo false, i8 11, i8 8, bo false, i8 11, i8 9, bo false, i8 11, i8 10, bo false, i8 11, i8 11, bo false, i8 11, i8 12, bo false, i8 11, i8 13, bo true, i8 0, i8 2, bo true, i8 0, i8 3, bo true, i8 1, i8 2, bo true, i8 1, i8 3, bo true, i8 2, i8 2, bo true, i8 3, i8 0, bo true, i8 3, i8 1, bo true, i8 3, i8 2, bo true, i8 3, i8 3, bo true, i8 3, i8 4])
def a109_0 : List A := [big59]
def r109_0 : A := big61
theorem q109_0 : EvQ (CX X3) 109 a109_0 r109_0 := evQ_fast 100000 (by kernel_rfl)
def mt109 : List (List A × A) := [(a109_0, r109_0)]
theorem mt109_ok : ∀ p ∈ mt109, EvQ (CX X3) 109 p.1 p.2 := by
  unfold mt109
  simp only [List.forall_mem_cons, List.not_mem_nil, false_implies, implies_true, and_true]
  exact q109_0
def big62 : A := (.agg [sA #[116], (.sl 1 [sA #[120]]), (.sl 1 [i8 0]), (.sl 1 [(.sl 0 [])]), i8 1, i8 0, i8 0, i8 0, i8 0, (.v (.slice none 0 0)), i64 2, i64 1, i64 1, i64 1, i64 1, i8 1, i8 1, i8 1, i64 0, bo false, sA #[109, 101, 115, 105], i8 1, i8 5, uw 2, i8 1, i8 6, uw 4, i8 3, i8 0, uw 0, i8 3, i8 0, uw 0, i8 3, i8 0, uw 0, i8 1, i8 0, uw 64, i8 3, i8 0, uw 0, i8 3, i8 0, uw 0, i8 3, i8 0, uw 0, i8 3, i8 0, uw 0, i8 3, i8 0, uw 0, i8 3, i8 0, uw 0, i8 3, i8 0, uw 0, i8 3, i8 0, uw 0, i8 1, i8 1, uw 256, i8 1, i8 7, uw 4, i8 1, i8 0, uw 512, i8 3, i8 0, uw 0, i8 3, i8 0, uw 0, i8 1, i8 0, uw 576, i8 3, i8 0, uw 0, i8 3, i8 0, uw 0, i8 3, i8 0, uw 0, i8 3, i8 0, uw 0, i8 3, i8 0, uw 0, i8 3, i8 0, uw 0, i8 3, i8 0, uw 0, i8 3, i8 0, uw 0, i8 1, i8 2, uw 256, i8 1, i8 4, uw 256, i8 1, i8 10, uw 8, i8 1, i8 1, uw 48, i8 1, i8 0, uw 528, i8 3, i8 0, uw 0, i8 3, i8 0, uw 0, i8 3, i8 0, uw 0, i8 3, i8 0, uw 0, i8 3, i8 0, uw 0, i8 3, i8 0, uw 0, i8 3, i8 0, uw 0, i8 3, i8 0, uw 0, i8 3, i8 0, uw 0, i8 3, i8 0, uw 0, i8 3, i8 0, uw 0, i8 3, i8 0, uw 0, i8 3, i8 0, uw 0, i8 3, i8 0, uw 0, i8 3, i8 0, uw 0, i8 3, i8 0, uw 0, i8 3, i8 0, uw 0, i8 3, i8 0, uw 0, i8 3, i8 0, uw 0, i8 3, i8 0, uw 0, i8 3, i8 0, uw 0, i8 3, i8 0, uw 0, i8 3, i8 0, uw 0, i8 1, i8 4, uw 256, i8 1, i8 4, uw 256, i8 1, i8 10, uw 8, i8 1, i8 1, uw 48, i8 1, i8 0, uw 528, i8 3, i8 0, uw 0, i8 3, i8 0, uw 0, i8 3, i8 0, uw 0, i8 3, i8 0, uw 0, i8 3, i8 0, uw 0, i8 3, i8 0, uw 0, i8 3, i8 0, uw 0, i8 3, i8 0, uw 0, i8 3, i8 0, uw 0, i8 2, i8 0, uw 0, i8 2, i8 0, uw 0, i8 2, i8 0, uw 0, i8 3, i8 0, uw 0, i8 3, i8 0, uw 0, i8 1, i8 5, uw 64, i8 3, i8 0, uw 0, i8 1, i8 1, uw 385, i8 1, i8 2, uw 385, i8 3, i8 0, uw 0, i8 3, i8 0, uw 0, i8 3, i8 0, uw 0, i8 3, i8 0, uw 0, i8 3, i8 0, uw 0, i8 2, i8 0, uw 0, i8 2, i8 0, uw 0, i8 2, i8 0, uw 0, i8 3, i8 0, uw 0, i8 3, i8 0, uw 0, i8 1, i8 6, uw 64, i8 3, i8 0, uw 0, i8 1, i8 4, uw 385, i8 3, i8 0, uw 0, i8 1, i8 9, uw 1, i8 3, i8 0, uw 0, i8 3, i8 0, uw 0, i8 1, i8 6, uw 0, i8 3, i8 0, uw 0, i8 2, i8 0, uw 0, i8 2, i8 0, uw 0, i8 2, i8 0, uw 0, i8 3, i8 0, uw 0, i8 3, i8 0, uw 0, i8 1, i8 6, uw 64, i8 3, i8 0, uw 0, i8 1, i8 4, uw 385, i8 3, i8 0, uw 0, i8 1, i8 9, uw 1, i8 3, i8 0, uw 0, i8 3, i8 0, uw 0, i8 1, i8 7, uw 0, i8 3, i8 0, uw 0, i8 3, i8 0, uw 0, i8 3, i8 0, uw 0, i8 3, i8 0, uw 0, i8 3, i8 0, uw 0, i8 3, i8 0, uw 0, i8 3, i8 0, uw 0, i8 3, i8 0, uw 0, i8 3, i8 0, uw 0, i8 3, i8 0, uw 0, i8 3, i8 0, uw 0, i8 3, i8 0, uw 0, i8 3, i8 0, uw 0, i8 3, i8 0, uw 0, i8 3, i8 0, uw 0, i8 2, i8 0, uw 0, i8 2, i8 0, uw 0, i8 2, i8 0, uw 0, i8 3, i8 0, uw 0, i8 3, i8 0, uw 0, i8 3, i8 0, uw 0, i8 3, i8 0, uw 0, i8 3, i8 0, uw 0, i8 3, i8 0, uw 0, i8 3, i8 0, uw 0, i8 3, i8 0, uw 0, i8 3, i8 0, uw 0, i8 1, i8 9, uw 0, i8 1, i8 4, uw 384, i8 2, i8 0, uw 0, i8 2, i8 0, uw 0, i8 2, i8 0, uw 0, i8 1, i8 11, uw 48, i8 1, i8 11, uw 16, i8 1, i8 11, uw 64, i8 1, i8 0, uw 512, i8 3, i8 0, uw 0, i8 3, i8 0, uw 0, i8 3, i8 0, uw 0, i8 3, i8 0, uw 0, i8 3, i8 0, uw 0, i8 3, i8 0, uw 0, i8 3, i8 0, uw 0, i8 2, i8 0, uw 0, i8 2, i8 0, uw 0, i8 2, i8 0, uw 0, i8 3, i8 0, uw 0, i8 3, i8 0, uw 0, i8 1, i8 11, uw 64, i8 1, i8 0, uw 512, i8 3, i8 0, uw 0, i8 3, i8 0, uw 0, i8 3, i8 0, uw 0, i8 3, i8 0, uw 0, i8 3, i8 0, uw 0, i8 3, i8 0, uw 0, i8 3, i8 0, uw 0, i8 1, i8 2, uw 10244, i8 1, i8 2, uw 10242, i8 3, i8 0, uw 0, i8 3, i8 0, uw 0, i8 1, i8 0, uw 128, i8 1, i8 1, uw 8706, i8 1, i8 2, uw 10499, i8 3, i8 0, uw 0, i8 3, i8 0, uw 0, i8 1, i8 1, uw 128, i8 1, i8 1, uw 26120, i8 1, i8 2, uw 10256, i8 3, i8 0, uw 0, i8 1, i8 0, uw 4288, i8 1, i8 2, uw 128, i8 3, i8 0, uw 0, i8 3, i8 0, uw 0, i8 3, i8 0, uw 0, i8 3, i8 0, uw 0, i8 3, i8 0, uw 0])
def a76_0 : List A := [big62]
def r76_0 : A := bo true
theorem q76_0 : EvQ (CX X3) 76 a76_0 r76_0 := evQ_fast 100000 (by kernel_rfl)
def mt76 : List (List A × A) := [(a76_0, r76_0)]
theorem mt76_ok : ∀ p ∈ mt76, EvQ (CX X3) 76 p.1 p.2 := by
  unfold mt76
  simp only [List.forall_mem_cons, List.not_mem_nil, false_implies, implies_true, and_true]
  exact q76_0
end Go.Proofs.YtnhknhniemfnjaaGreatDoor.Ev
namespace Go.Proofs.YtnhknhniemfnjaaGreatDoor.Ev
open Go Go.RowKit
set_option maxRecDepth 1000000
def big63 : A := (.agg [(.sl 2 [i8 0, i8 0, i8 0, i8 0, i8 0, i8 0, i8 0, i8 0, i8 0, (.v (.slice none 0 0)), bo false, bo false, i8 0, i8 0, i8 0, i8 0, i8 0, i8 0, i8 0, i8 0, i8 0, (.v (.slice none 0 0)), bo false, bo false]), (.sl 2 [i8 0, i8 0, si 0, bo false, i8 0, i8 0, i8 0, i8 0, i8 0, i8 0, si 0, bo false, i8 0, i8 0, i8 0, i8 0, i8 0, i8 0, si 0, bo false, i8 0, i8 0, i8 0, i8 0, i8 0, i8 0, si 0, bo false, i8 0, i8 0, i8 0, i8 0, i8 0, i8 0, si 0, bo false, i8 0, i8 0, i8 0, i8 0, i8 0, i8 0, si 0, bo false, i8 0, i8 0, i8 0, i8 0, i8 0, i8 0, si 0, bo false, i8 0, i8 0, i8 0, i8 0, i8 0, i8 0, si 0, bo false, i8 0, i8 0, i8 0, i8 0, i8 0, i8 0, si 0, bo false, i8 0, i8 0, i8 0, i8 0, i8 0, i8 0, si 0, bo false, i8 0, i8 0, i8 0, i8 0, i8 0, i8 0, si 0, bo false, i8 0, i8 0, i8 0, i8 0, i8 0, i8 0, si 0, bo false, i8 0, i8 0, i8 0, i8 0, i8 0, i8 0, si 0, bo false, i8 0, i8 0, i8 0, i8 0, i8 0, i8 0, si 0, bo false, i8 0, i8 0, i8 0, i8 0, i8 0, i8 0, si 0, bo false, i8 0, i8 0, i8 0, i8 0, i8 0, i8 0, si 0, bo false, i8 0, i8 0, i8 0, i8 0, i8 1, i64 1, i8 0, i8 0, i8 0, i8 0, i8 0, i8 0, i64 0, i8 0, i8 0, i8 0, i8 0, i8 0, i8 0, i64 0, i8 0, i8 0, i8 0, i8 0, i8 0, i8 0, i64 0, i8 0, i8 0, i8 0, i8 0, i8 0, i8 0, i8 0, i8 0, i8 0, i8 0, i8 0, si 0, bo false, i8 0, i8 0, i8 0, i8 0, i8 0, i8 0, si 0, bo false, i8 0, i8 0, i8 0, i8 0, i8 0, i8 0, si 0, bo false, i8 0, i8 0, i8 0, i8 0, i8 0, i8 0, si 0, bo false, i8 0, i8 0, i8 0, i8 0, i8 0, i8 0, si 0, bo false, i8 0, i8 0, i8 0, i8 0, i8 0, i8 0, si 0, bo false, i8 0, i8 0, i8 0, i8 0, i8 0, i8 0, si 0, bo false, i8 0, i8 0, i8 0, i8 0, i8 0, i8 0, si 0, bo false, i8 0, i8 0, i8 0, i8 0, i8 0, i8 0, si 0, bo false, i8 0, i8 0, i8 0, i8 0, i8 0, i8 0, si 0, bo false, i8 0, i8 0, i8 0, i8 0, i8 0, i8 0, si 0, bo false, i8 0, i8 0, i8 0, i8 0, i8 0, i8 0, si 0, bo false, i8 0, i8 0, i8 0, i8 0, i8 0, i8 0, si 0, bo false, i8 0, i8 0, i8 0, i8 0, i8 0, i8 0, si 0, bo false, i8 0, i8 0, i8 0, i8 0, i8 0, i8 0, si 0, bo false, i8 0, i8 0, i8 0, i8 0, i8 0, i8 0, si 0, bo false, i8 0, i8 0, i8 0, i8 0, i8 1, i64 1, i8 0, i8 0, i8 0, i8 0, i8 0, i8 0, i64 0, i8 0, i8 0, i8 0, i8 0, i8 0, i8 0, i64 0, i8 0, i8 0, i8 0, i8 0, i8 0, i8 0, i64 0, i8 0, i8 0, i8 0, i8 0, i8 0, i8 0, i8 0, i8 0, i8 0]), i8 0, i8 255, i8 1, (.v (.int .u64 0)), bo false, i8 0, i8 0, i8 0, i8 0, i8 0, i8 0, i8 0, i8 255, i8 1, (.v (.int .u64 0)), bo false, i8 0, i8 0, i8 0, i8 0, i8 0, i8 0, i8 0, i8 255, i8 1, (.v (.int .u64 0)), bo false, i8 0, i8 0, i8 0, i8 0, i8 0, i8 0, i8 0, i8 255, i8 1, (.v (.int .u64 0)), bo false, i8 0, i8 0, i8 0, i8 0, i8 0, i8 0, i8 0, i8 255, i8 1, (.v (.int .u64 0)), bo false, i8 0, i8 0, i8 0, i8 0, i8 0, i8 0, i8 0, i8 255, i8 1, (.v (.int .u64 0)), bo false, i8 0, i8 0, i8 0, i8 0, i8 0, i8 0, (.v (.slice none 0 0))])
def a17_0 : List A := [big62, big63]
def r17_0 : A := i8 0
theorem q17_0 : EvQ (CX X3) 17 a17_0 r17_0 := evQ_fast 100000 (by kernel_rfl)
def big64 : A := (.agg [(.sl 2 [i8 0, i8 0, i8 0, i8 0, i8 0, i8 0, i8 0, i8 0, i8 0, (.v (.slice none 0 0)), bo false, bo false, i8 0, i8 0, i8 0, i8 0, i8 0, i8 0, i8 0, i8 0, i8 0, (.v (.slice none 0 0)), bo false, bo false]), (.sl 2 [i8 0, i8 4, si 0, bo false, i8 0, i8 0, i8 0, i8 0, i8 0, i8 0, si 0, bo false, i8 0, i8 0, i8 0, i8 0, i8 0, i8 0, si 0, bo false, i8 0, i8 0, i8 0, i8 0, i8 0, i8 0, si 0, bo false, i8 0, i8 0, i8 0, i8 0, i8 0, i8 0, si 0, bo false, i8 0, i8 0, i8 0, i8 0, i8 0, i8 0, si 0, bo false, i8 0, i8 0, i8 0, i8 0, i8 0, i8 0, si 0, bo false, i8 0, i8 0, i8 0, i8 0, i8 0, i8 0, si 0, bo false, i8 0, i8 0, i8 0, i8 0, i8 0, i8 0, si 0, bo false, i8 0, i8 0, i8 0, i8 0, i8 0, i8 0, si 0, bo false, i8 0, i8 0, i8 0, i8 0, i8 0, i8 0, si 0, bo false, i8 0, i8 0, i8 0, i8 0, i8 0, i8 0, si 0, bo false, i8 0, i8 0, i8 0, i8 0, i8 0, i8 0, si 0, bo false, i8 0, i8 0, i8 0, i8 0, i8 0, i8 0, si 0, bo false, i8 0, i8 0, i8 0, i8 0, i8 0, i8 0, si 0, bo false, i8 0, i8 0, i8 0, i8 0, i8 0, i8 0, si 0, bo false, i8 0, i8 0, i8 0, i8 0, i8 1, i64 1, i8 0, i8 0, i8 0, i8 0, i8 0, i8 0, i64 0, i8 0, i8 0, i8 0, i8 0, i8 0, i8 0, i64 0, i8 0, i8 0, i8 0, i8 0, i8 0, i8 0, i64 0, i8 0, i8 0, i8 0, i8 0, i8 0, i8 0, i8 0, i8 0, i8 0, i8 0, i8 4, si 0, bo false, i8 0, i8 0, i8 0, i8 0, i8 0, i8 0, si 0, bo false, i8 0, i8 0, i8 0, i8 0, i8 0, i8 0, si 0, bo false, i8 0, i8 0, i8 0, i8 0, i8 0, i8 0, si 0, bo false, i8 0, i8 0, i8 0, i8 0, i8 0, i8 0, si 0, bo false, i8 0, i8 0, i8 0, i8 0, i8 0, i8 0, si 0, bo false, i8 0, i8 0, i8 0, i8 0, i8 0, i8 0, si 0, bo false, i8 0, i8 0, i8 0, i8 0, i8 0, i8 0, si 0, bo false, i8 0, i8 0, i8 0, i8 0, i8 0, i8 0, si 0, bo false, i8 0, i8 0, i8 0, i8 0, i8 0, i8 0, si 0, bo false, i8 0, i8 0, i8 0, i8 0, i8 0, i8 0, si 0, bo false, i8 0, i8 0, i8 0, i8 0, i8 0, i8 0, si 0, bo false, i8 0, i8 0, i8 0, i8 0, i8 0, i8 0, si 0, bo false, i8 0, i8 0, i8 0, i8 0, i8 0, i8 0, si 0, bo false, i8 0, i8 0, i8 0, i8 0, i8 0, i8 0, si 0, bo false, i8 0, i8 0, i8 0, i8 0, i8 0, i8 0, si 0, bo false, i8 0, i8 0, i8 0, i8 0, i8 1, i64 1, i8 0, i8 0, i8 0, i8 0, i8 0, i8 0, i64 0, i8 0, i8 0, i8 0, i8 0, i8 0, i8 0, i64 0, i8 0, i8 0, i8 0, i8 0, i8 0, i8 0, i64 0, i8 0, i8 0, i8 0, i8 0, i8 0, i8 0, i8 0, i8 0, i8 0]), i8 0, i8 255, i8 1, (.v (.int .u64 0)), bo false, i8 0, i8 0, i8 0, i8 0, i8 0, i8 0, i8 0, i8 255, i8 1, (.v (.int .u64 0)), bo false, i8 0, i8 0, i8 0, i8 0, i8 0, i8 0, i8 0, i8 255, i8 1, (.v (.int .u64 0)), bo false, i8 0, i8 0, i8 0, i8 0, i8 0, i8 0, i8 0, i8 255, i8 1, (.v (.int .u64 0)), bo false, i8 0, i8 0, i8 0, i8 0, i8 0, i8 0, i8 0, i8 255, i8 1, (.v (.int .u64 0)), bo false, i8 0, i8 0, i8 0, i8 0, i8 0, i8 0, i8 0, i8 255, i8 1, (.v (.int .u64 0)), bo false, i8 0, i8 0, i8 0, i8 0, i8 0, i8 0, (.v (.slice none 0 0))])
def a17_1 : List A := [big62, big64]
def r17_1 : A := i8 2
theorem q17_1 : EvQ (CX X3) 17 a17_1 r17_1 := evQ_fast 100000 (by kernel_rfl)
def big65 : A := (.agg [(.sl 2 [i8 0, i8 0, i8 0, i8 0, i8 0, i8 0, i8 0, i8 0, i8 0, (.v (.slice none 0 0)), bo false, bo false, i8 0, i8 0, i8 0, i8 0, i8 0, i8 0, i8 0, i8 0, i8 0, (.v (.slice none 0 0)), bo false, bo false]), (.sl 2 [i8 0, i8 1, si 0, bo false, i8 1, i8 0, i8 0, i8 0, i8 0, i8 0, si 0, bo false, i8 0, i8 0, i8 0, i8 0, i8 0, i8 0, si 0, bo false, i8 0, i8 0, i8 0, i8 0, i8 0, i8 0, si 0, bo false, i8 0, i8 0, i8 0, i8 0, i8 0, i8 0, si 0, bo false, i8 0, i8 0, i8 0, i8 0, i8 0, i8 0, si 0, bo false, i8 0, i8 0, i8 0, i8 0, i8 0, i8 0, si 0, bo false, i8 0, i8 0, i8 0, i8 0, i8 0, i8 0, si 0, bo false, i8 0, i8 0, i8 0, i8 0, i8 0, i8 0, si 0, bo false, i8 0, i8 0, i8 0, i8 0, i8 0, i8 0, si 0, bo false, i8 0, i8 0, i8 0, i8 0, i8 0, i8 0, si 0, bo false, i8 0, i8 0, i8 0, i8 0, i8 0, i8 0, si 0, bo false, i8 0, i8 0, i8 0, i8 0, i8 0, i8 0, si 0, bo false, i8 0, i8 0, i8 0, i8 0, i8 0, i8 0, si 0, bo false, i8 0, i8 0, i8 0, i8 0, i8 0, i8 0, si 0, bo false, i8 0, i8 0, i8 0, i8 0, i8 0, i8 0, si 0, bo false, i8 0, i8 0, i8 0, i8 0, i8 1, i64 1, i8 0, i8 0, i8 0, i8 0, i8 0, i8 0, i64 0, i8 0, i8 0, i8 0, i8 0, i8 0, i8 0, i64 0, i8 0, i8 0, i8 0, i8 0, i8 0, i8 0, i64 0, i8 0, i8 0, i8 0, i8 0, i8 0, i8 0, i8 0, i8 0, i8 0, i8 0, i8 0, si 0, bo false, i8 0, i8 0, i8 0, i8 0, i8 0, i8 0, si 0, bo false, i8 0, i8 0, i8 0, i8 0, i8 0, i8 0, si 0, bo false, i8 0, i8 0, i8 0, i8 0, i8 0, i8 0, si 0, bo false, i8 0, i8 0, i8 0, i8 0, i8 0, i8 0, si 0, bo false, i8 0, i8 0, i8 0, i8 0, i8 0, i8 0, si 0, bo false, i8 0, i8 0, i8 0, i8 0, i8 0, i8 0, si 0, bo false, i8 0, i8 0, i8 0, i8 0, i8 0, i8 0, si 0, bo false, i8 0, i8 0, i8 0, i8 0, i8 0, i8 0, si 0, bo false, i8 0, i8 0, i8 0, i8 0, i8 0, i8 0, si 0, bo false, i8 0, i8 0, i8 0, i8 0, i8 0, i8 0, si 0, bo false, i8 0, i8 0, i8 0, i8 0, i8 0, i8 0, si 0, bo false, i8 0, i8 0, i8 0, i8 0, i8 0, i8 0, si 0, bo false, i8 0, i8 0, i8 0, i8 0, i8 0, i8 0, si 0, bo false, i8 0, i8 0, i8 0, i8 0, i8 0, i8 0, si 0, bo false, i8 0, i8 0, i8 0, i8 0, i8 0, i8 0, si 0, bo false, i8 0, i8 0, i8 0, i8 0, i8 1, i64 1, i8 0, i8 0, i8 0, i8 0, i8 0, i8 0, i64 0, i8 0, i8 0, i8 0, i8 0, i8 0, i8 0, i64 0, i8 0, i8 0, i8 0, i8 0, i8 0, i8 0, i64 0, i8 0, i8 0, i8 0, i8 0, i8 0, i8 0, i8 0, i8 0, i8 0]), i8 0, i8 255, i8 1, (.v (.int .u64 0)), bo false, i8 0, i8 0, i8 0, i8 0, i8 0, i8 0, i8 0, i8 255, i8 1, (.v (.int .u64 0)), bo false, i8 0, i8 0, i8 0, i8 0, i8 0, i8 0, i8 0, i8 255, i8 1, (.v (.int .u64 0)), bo false, i8 0, i8 0, i8 0, i8 0, i8 0, i8 0, i8 0, i8 255, i8 1, (.v (.int .u64 0)), bo false, i8 0, i8 0, i8 0, i8 0, i8 0, i8 0, i8 0, i8 255, i8 1, (.v (.int .u64 0)), bo false, i8 0, i8 0, i8 0, i8 0, i8 0, i8 0, i8 0, i8 255, i8 1, (.v (.int .u64 0)), bo false, i8 0, i8 0, i8 0, i8 0, i8 0, i8 0, (.v (.slice none 0 0))])
def a17_2 : List A := [big62, big65]
def r17_2 : A := i8 3
theorem q17_2 : EvQ (CX X3) 17 a17_2 r17_2 := evQ_fast 100000 (by kernel_rfl)
def big66 : A := (.agg [(.sl 2 [i8 0, i8 0, i8 0, i8 0, i8 0, i8 0, i8 0, i8 0, i8 0, (.v (.slice none 0 0)), bo false, bo false, i8 0, i8 0, i8 0, i8 0, i8 0, i8 0, i8 0, i8 0, i8 0, (.v (.slice none 0 0)), bo false, bo false]), (.sl 2 [i8 0, i8 1, si 0, bo false, i8 0, i8 0, i8 0, i8 0, i8 0, i8 0, si 0, bo false, i8 0, i8 0, i8 0, i8 0, i8 0, i8 0, si 0, bo false, i8 0, i8 0, i8 0, i8 0, i8 0, i8 0, si 0, bo false, i8 0, i8 0, i8 0, i8 0, i8 0, i8 0, si 0, bo false, i8 0, i8 0, i8 0, i8 0, i8 0, i8 0, si 0, bo false, i8 0, i8 0, i8 0, i8 0, i8 0, i8 0, si 0, bo false, i8 0, i8 0, i8 0, i8 0, i8 0, i8 0, si 0, bo false, i8 0, i8 0, i8 0, i8 0, i8 0, i8 0, si 0, bo false, i8 0, i8 0, i8 0, i8 0, i8 0, i8 0, si 0, bo false, i8 0, i8 0, i8 0, i8 0, i8 0, i8 0, si 0, bo false, i8 0, i8 0, i8 0, i8 0, i8 0, i8 0, si 0, bo false, i8 0, i8 0, i8 0, i8 0, i8 0, i8 0, si 0, bo false, i8 0, i8 0, i8 0, i8 0, i8 0, i8 0, si 0, bo false, i8 0, i8 0, i8 0, i8 0, i8 0, i8 0, si 0, bo false, i8 0, i8 0, i8 0, i8 0, i8 0, i8 0, si 0, bo false, i8 0, i8 0, i8 0, i8 0, i8 1, i64 1, i8 0, i8 0, i8 0, i8 0, i8 0, i8 0, i64 0, i8 0, i8 0, i8 0, i8 0, i8 0, i8 0, i64 0, i8 0, i8 0, i8 0, i8 0, i8 0, i8 0, i64 0, i8 0, i8 0, i8 0, i8 0, i8 0, i8 0, i8 0, i8 0, i8 0, i8 0, i8 0, si 0, bo false, i8 0, i8 0, i8 0, i8 0, i8 0, i8 0, si 0, bo false, i8 0, i8 0, i8 0, i8 0, i8 0, i8 0, si 0, bo false, i8 0, i8 0, i8 0, i8 0, i8 0, i8 0, si 0, bo false, i8 0, i8 0, i8 0, i8 0, i8 0, i8 0, si 0, bo false, i8 0, i8 0, i8 0, i8 0, i8 0, i8 0, si 0, bo false, i8 0, i8 0, i8 0, i8 0, i8 0, i8 0, si 0, bo false, i8 0, i8 0, i8 0, i8 0, i8 0, i8 0, si 0, bo false, i8 0, i8 0, i8 0, i8 0, i8 0, i8 0, si 0, bo false, i8 0, i8 0, i8 0, i8 0, i8 0, i8 0, si 0, bo false, i8 0, i8 0, i8 0, i8 0, i8 0, i8 0, si 0, bo false, i8 0, i8 0, i8 0, i8 0, i8 0, i8 0, si 0, bo false, i8 0, i8 0, i8 0, i8 0, i8 0, i8 0, si 0, bo false, i8 0, i8 0, i8 0, i8 0, i8 0, i8 0, si 0, bo false, i8 0, i8 0, i8 0, i8 0, i8 0, i8 0, si 0, bo false, i8 0, i8 0, i8 0, i8 0, i8 0, i8 0, si 0, bo false, i8 0, i8 0, i8 0, i8 0, i8 1, i64 1, i8 0, i8 0, i8 0, i8 0, i8 0, i8 0, i64 0, i8 0, i8 0, i8 0, i8 0, i8 0, i8 0, i64 0, i8 0, i8 0, i8 0, i8 0, i8 0, i8 0, i64 0, i8 0, i8 0, i8 0, i8 0, i8 0, i8 0, i8 0, i8 0, i8 0]), i8 0, i8 255, i8 1, (.v (.int .u64 0)), bo false, i8 0, i8 0, i8 0, i8 0, i8 0, i8 0, i8 0, i8 255, i8 1, (.v (.int .u64 0)), bo false, i8 0, i8 0, i8 0, i8 0, i8 0, i8 0, i8 0, i8 255, i8 1, (.v (.int .u64 0)), bo false, i8 0, i8 0, i8 0, i8 0, i8 0, i8 0, i8 0, i8 255, i8 1, (.v (.int .u64 0)), bo false, i8 0, i8 0, i8 0, i8 0, i8 0, i8 0, i8 0, i8 255, i8 1, (.v (.int .u64 0)), bo false, i8 0, i8 0, i8 0, i8 0, i8 0, i8 0, i8 0, i8 255, i8 1, (.v (.int .u64 0)), bo false, i8 0, i8 0, i8 0, i8 0, i8 0, i8 0, (.v (.slice none 0 0))])
def a17_3 : List A := [big62, big66]
def r17_3 : A := i8 4
theorem q17_3 : EvQ (CX X3) 17 a17_3 r17_3 := evQ_fast 100000 (by kernel_rfl)
def big67 : A := (.agg [(.sl 2 [i8 0, i8 0, i8 0, i8 0, i8 0, i8 0, i8 0, i8 0, i8 0, (.v (.slice none 0 0)), bo false, bo false, i8 0, i8 0, i8 0, i8 0, i8 0, i8 0, i8 0, i8 0, i8 0, (.v (.slice none 0 0)), bo false, bo false]), (.sl 2 [i8 0, i8 0, si 0, bo false, i8 0, i8 0, i8 0, i8 0, i8 0, i8 0, si 0, bo false, i8 0, i8 0, i8 0, i8 0, i8 0, i8 0, si 0, bo false, i8 0, i8 0, i8 0, i8 0, i8 0, i8 0, si 0, bo false, i8 0, i8 0, i8 0, i8 0, i8 0, i8 0, si 0, bo false, i8 0, i8 0, i8 0, i8 0, i8 0, i8 0, si 0, bo false, i8 0, i8 0, i8 0, i8 0, i8 0, i8 0, si 0, bo false, i8 0, i8 0, i8 0, i8 0, i8 0, i8 0, si 0, bo false, i8 0, i8 0, i8 0, i8 0, i8 0, i8 0, si 0, bo false, i8 0, i8 0, i8 0, i8 0, i8 0, i8 0, si 0, bo false, i8 0, i8 0, i8 0, i8 0, i8 0, i8 0, si 0, bo false, i8 0, i8 0, i8 0, i8 0, i8 0, i8 0, si 0, bo false, i8 0, i8 0, i8 0, i8 0, i8 0, i8 0, si 0, bo false, i8 0, i8 0, i8 0, i8 0, i8 0, i8 0, si 0, bo false, i8 0, i8 0, i8 0, i8 0, i8 0, i8 0, si 0, bo false, i8 0, i8 0, i8 0, i8 0, i8 0, i8 0, si 0, bo false, i8 0, i8 0, i8 0, i8 0, i8 1, i64 1, i8 0, i8 0, i8 0, i8 0, i8 0, i8 0, i64 0, i8 0, i8 0, i8 0, i8 0, i8 0, i8 0, i64 0, i8 0, i8 0, i8 0, i8 0, i8 0, i8 0, i64 0, i8 0, i8 0, i8 0, i8 0, i8 0, i8 0, i8 0, i8 0, i8 0, i8 0, i8 0, si 0, bo false, i8 0, i8 0, i8 0, i8 0, i8 0, i8 0, si 0, bo false, i8 0, i8 0, i8 0, i8 0, i8 0, i8 0, si 0, bo false, i8 0, i8 0, i8 0, i8 0, i8 0, i8 0, si 0, bo false, i8 0, i8 0, i8 0, i8 0, i8 0, i8 0, si 0, bo false, i8 0, i8 0, i8 0, i8 0, i8 0, i8 0, si 0, bo false, i8 0, i8 0, i8 0, i8 0, i8 0, i8 0, si 0, bo false, i8 0, i8 0, i8 0, i8 0, i8 0, i8 0, si 0, bo false, i8 0, i8 0, i8 0, i8 0, i8 0, i8 0, si 0, bo false, i8 0, i8 0, i8 0, i8 0, i8 0, i8 0, si 0, bo false, i8 0, i8 0, i8 0, i8 0, i8 0, i8 0, si 0, bo false, i8 0, i8 0, i8 0, i8 0, i8 0, i8 0, si 0, bo false, i8 0, i8 0, i8 0, i8 0, i8 0, i8 0, si 0, bo false, i8 0, i8 0, i8 0, i8 0, i8 0, i8 0, si 0, bo false, i8 0, i8 0, i8 0, i8 0, i8 0, i8 0, si 0, bo false, i8 0, i8 0, i8 0, i8 0, i8 0, i8 0, si 0, bo false, i8 0, i8 0, i8 0, i8 0, i8 1, i64 1, i8 0, i8 0, i8 0, i8 0, i8 0, i8 0, i64 0, i8 0, i8 0, i8 0, i8 0, i8 0, i8 0, i64 0, i8 0, i8 0, i8 0, i8 0, i8 0, i8 0, i64 0, i8 0, i8 0, i8 0, i8 0, i8 0, i8 0, i8 0, i8 0, i8 0]), i8 0, i8 255, i8 1, (.v (.int .u64 0)), bo false, i8 0, i8 0, i8 0, i8 0, i8 0, i8 0, i8 0, i8 255, i8 1, (.v (.int .u64 0)), bo false, i8 0, i8 0, i8 0, i8 0, i8 0, i8 0, i8 0, i8 255, i8 1, (.v (.int .u64 0)), bo false, i8 0, i8 0, i8 0, i8 0, i8 0, i8 0, i8 0, i8 255, i8 1, (.v (.int .u64 0)), bo false, i8 0, i8 0, i8 0, i8 0, i8 0, i8 0, i8 0, i8 255, i8 1, (.v (.int .u64 0)), bo false, i8 0, i8 0, i8 0, i8 0, i8 0, i8 0, i8 0, i8 255, i8 1, (.v (.int .u64 0)), bo false, i8 0, i8 0, i8 0, i8 0, i8 0, i8 0, (.sl 1 [i8 4, i8 0, i8 2, i8 0, i8 0, i8 0, bo false, i8 0, i8 0, i8 0, i8 0])])
def a17_4 : List A := [big62, big67]
def r17_4 : A := i8 5
theorem q17_4 : EvQ (CX X3) 17 a17_4 r17_4 := evQ_fast 100000 (by kernel_rfl)
def mt17 : List (List A × A) := [(a17_0, r17_0), (a17_1, r17_1), (a17_2, r17_2), (a17_3, r17_3), (a17_4, r17_4)]
theorem mt17_ok : ∀ p ∈ mt17, EvQ (CX X3) 17 p.1 p.2 := by
  unfold mt17
  simp only [List.forall_mem_cons, List.not_mem_nil, false_implies, implies_true, and_true]
  exact ⟨q17_0, q17_1, q17_2, q17_3, q17_4⟩
end Go.Proofs.YtnhknhniemfnjaaGreatDoor.Ev
namespace Go.Proofs.YtnhknhniemfnjaaGreatDoor.Ev
open Go Go.RowKit
set_option maxRecDepth 1000000
def big68 : A := (.tup [(.agg [sA #[109, 101, 115, 105], i8 1, i8 5, uw 2, i8 1, i8 6, uw 4, i8 3, i8 0, uw 0, i8 3, i8 0, uw 0, i8 3, i8 0, uw 0, i8 1, i8 0, uw 64, i8 3, i8 0, uw 0, i8 3, i8 0, uw 0, i8 3, i8 0, uw 0, i8 3, i8 0, uw 0, i8 3, i8 0, uw 0, i8 3, i8 0, uw 0, i8 3, i8 0, uw 0, i8 3, i8 0, uw 0, i8 1, i8 1, uw 256, i8 1, i8 7, uw 4, i8 1, i8 0, uw 512, i8 3, i8 0, uw 0, i8 3, i8 0, uw 0, i8 1, i8 0, uw 576, i8 3, i8 0, uw 0, i8 3, i8 0, uw 0, i8 3, i8 0, uw 0, i8 3, i8 0, uw 0, i8 3, i8 0, uw 0, i8 3, i8 0, uw 0, i8 3, i8 0, uw 0, i8 3, i8 0, uw 0, i8 1, i8 2, uw 256, i8 1, i8 4, uw 256, i8 1, i8 10, uw 8, i8 1, i8 1, uw 48, i8 1, i8 0, uw 528, i8 3, i8 0, uw 0, i8 3, i8 0, uw 0, i8 3, i8 0, uw 0, i8 3, i8 0, uw 0, i8 3, i8 0, uw 0, i8 3, i8 0, uw 0, i8 3, i8 0, uw 0, i8 3, i8 0, uw 0, i8 3, i8 0, uw 0, i8 3, i8 0, uw 0, i8 3, i8 0, uw 0, i8 3, i8 0, uw 0, i8 3, i8 0, uw 0, i8 3, i8 0, uw 0, i8 3, i8 0, uw 0, i8 3, i8 0, uw 0, i8 3, i8 0, uw 0, i8 3, i8 0, uw 0, i8 3, i8 0, uw 0, i8 3, i8 0, uw 0, i8 3, i8 0, uw 0, i8 3, i8 0, uw 0, i8 3, i8 0, uw 0, i8 1, i8 4, uw 256, i8 1, i8 4, uw 256, i8 1, i8 10, uw 8, i8 1, i8 1, uw 48, i8 1, i8 0, uw 528, i8 3, i8 0, uw 0, i8 3, i8 0, uw 0, i8 3, i8 0, uw 0, i8 3, i8 0, uw 0, i8 3, i8 0, uw 0, i8 3, i8 0, uw 0, i8 3, i8 0, uw 0, i8 3, i8 0, uw 0, i8 3, i8 0, uw 0, i8 2, i8 0, uw 0, i8 2, i8 0, uw 0, i8 2, i8 0, uw 0, i8 3, i8 0, uw 0, i8 3, i8 0, uw 0, i8 1, i8 5, uw 64, i8 3, i8 0, uw 0, i8 1, i8 1, uw 385, i8 1, i8 2, uw 385, i8 3, i8 0, uw 0, i8 3, i8 0, uw 0, i8 3, i8 0, uw 0, i8 3, i8 0, uw 0, i8 3, i8 0, uw 0, i8 2, i8 0, uw 0, i8 2, i8 0, uw 0, i8 2, i8 0, uw 0, i8 3, i8 0, uw 0, i8 3, i8 0, uw 0, i8 1, i8 6, uw 64, i8 3, i8 0, uw 0, i8 1, i8 4, uw 385, i8 3, i8 0, uw 0, i8 1, i8 9, uw 1, i8 3, i8 0, uw 0, i8 3, i8 0, uw 0, i8 1, i8 6, uw 0, i8 3, i8 0, uw 0, i8 2, i8 0, uw 0, i8 2, i8 0, uw 0, i8 2, i8 0, uw 0, i8 3, i8 0, uw 0, i8 3, i8 0, uw 0, i8 1, i8 6, uw 64, i8 3, i8 0, uw 0, i8 1, i8 4, uw 385, i8 3, i8 0, uw 0, i8 1, i8 9, uw 1, i8 3, i8 0, uw 0, i8 3, i8 0, uw 0, i8 1, i8 7, uw 0, i8 3, i8 0, uw 0, i8 3, i8 0, uw 0, i8 3, i8 0, uw 0, i8 3, i8 0, uw 0, i8 3, i8 0, uw 0, i8 3, i8 0, uw 0, i8 3, i8 0, uw 0, i8 3, i8 0, uw 0, i8 3, i8 0, uw 0, i8 3, i8 0, uw 0, i8 3, i8 0, uw 0, i8 3, i8 0, uw 0, i8 3, i8 0, uw 0, i8 3, i8 0, uw 0, i8 3, i8 0, uw 0, i8 2, i8 0, uw 0, i8 2, i8 0, uw 0, i8 2, i8 0, uw 0, i8 3, i8 0, uw 0, i8 3, i8 0, uw 0, i8 3, i8 0, uw 0, i8 3, i8 0, uw 0, i8 3, i8 0, uw 0, i8 3, i8 0, uw 0, i8 3, i8 0, uw 0, i8 3, i8 0, uw 0, i8 3, i8 0, uw 0, i8 1, i8 9, uw 0, i8 1, i8 4, uw 384, i8 2, i8 0, uw 0, i8 2, i8 0, uw 0, i8 2, i8 0, uw 0, i8 1, i8 11, uw 48, i8 1, i8 11, uw 16, i8 1, i8 11, uw 64, i8 1, i8 0, uw 512, i8 3, i8 0, uw 0, i8 3, i8 0, uw 0, i8 3, i8 0, uw 0, i8 3, i8 0, uw 0, i8 3, i8 0, uw 0, i8 3, i8 0, uw 0, i8 3, i8 0, uw 0, i8 2, i8 0, uw 0, i8 2, i8 0, uw 0, i8 2, i8 0, uw 0, i8 3, i8 0, uw 0, i8 3, i8 0, uw 0, i8 1, i8 11, uw 64, i8 1, i8 0, uw 512, i8 3, i8 0, uw 0, i8 3, i8 0, uw 0, i8 3, i8 0, uw 0, i8 3, i8 0, uw 0, i8 3, i8 0, uw 0, i8 3, i8 0, uw 0, i8 3, i8 0, uw 0, i8 1, i8 2, uw 10244, i8 1, i8 2, uw 10242, i8 3, i8 0, uw 0, i8 3, i8 0, uw 0, i8 1, i8 0, uw 128, i8 1, i8 1, uw 8706, i8 1, i8 2, uw 10499, i8 3, i8 0, uw 0, i8 3, i8 0, uw 0, i8 1, i8 1, uw 128, i8 1, i8 1, uw 26120, i8 1, i8 2, uw 10256, i8 3, i8 0, uw 0, i8 1, i8 0, uw 4288, i8 1, i8 2, uw 128, i8 3, i8 0, uw 0, i8 3, i8 0, uw 0, i8 3, i8 0, uw 0, i8 3, i8 0, uw 0, i8 3, i8 0, uw 0]), i64 0])
def a38_0 : List A := [i8 2]
def r38_0 : A := big68
open Classical in
noncomputable def XE (C : Ctx) (S : List Nat) (X : FuncId → List A → Option A) (f : FuncId) (l : List A) : Option A := if h : f ∈ S ∧ ∃ r, EvQ C f l r then some (Classical.choose h.2) else X f l
theorem XE_hit {C : Ctx} {S : List Nat} {X : FuncId → List A → Option A} {f : FuncId} {l : List A} {r : A} (hf : f ∈ S) (h : EvQ C f l r) : XE C S X f l = some r := by
  have hc : f ∈ S ∧ ∃ r, EvQ C f l r := ⟨hf, r, h⟩
  unfold XE
  rw [dif_pos hc]
  rw [h.one (Classical.choose_spec hc.2)]
theorem XE_miss {C : Ctx} {S : List Nat} {X : FuncId → List A → Option A} {f : FuncId} {l : List A} (hf : f ∉ S) : XE C S X f l = X f l := by
  unfold XE
  rw [dif_neg fun h => hf h.1]
theorem XE_ok {C : Ctx} {S : List Nat} {X : FuncId → List A → Option A} (hC : CtxOk Tryz.prog C) (hT : C.T = Cx.T) (hX : QOk Cx.T Tryz.prog X) : QOk Cx.T Tryz.prog (XE C S X) := by
  intro f l r h
  unfold XE at h
  split at h
  · rename_i hc
    obtain rfl := Option.some.inj h
    obtain ⟨N, hN⟩ := Classical.choose_spec hc.2
    have := (call_sound hC N).1 f l _ hN
    rw [hT] at this
    exact this
  · exact hX f l r h
theorem orE_ok {C : Ctx} {X : FuncId → List A → Option A} {f0 : Nat} {t : List (List A × A)} (hC : CtxOk Tryz.prog C) (hT : C.T = Cx.T) (ht : ∀ p ∈ t, EvQ C f0 p.1 p.2) (hX : QOk Cx.T Tryz.prog X) : QOk Cx.T Tryz.prog (orX f0 t X) := by
  intro f l r h
  unfold orX at h
  cases hb : Nat.beq f f0 with
  | false =>
    simp only [hb, cond_false] at h
    exact hX f l r h
  | true =>
    obtain rfl := Nat.eq_of_beq_eq_true hb
    simp only [hb, cond_true] at h
    obtain ⟨N, hN⟩ := ht _ (look1_mem h)
    have := (call_sound hC N).1 f l _ hN
    rw [hT] at this
    exact this
def wtM (i : Nat) : Bool := !(pH i) && Nat.ble (pO i) 2 && (Nat.beq (pS i) 5 || Nat.beq (pS i) 6 || Nat.beq (pS i) 7 || Nat.beq (pS i) 9 || Nat.beq (pS i) 10 || Nat.beq (pS i) 11)
theorem waits_all : ((List.range 188).all fun i => match (callsF Cx 1000).1 75 [i8 2, placeA i] with | some r => eqA r (bo (wtM i)) | none => false) = true := by kernel_rfl
theorem waits_ev (i : Nat) (hi : i < 188) : EvQ Cx 75 [i8 2, placeA i] (bo (wtM i)) := by
  have h := List.all_eq_true.1 waits_all i (List.mem_range.2 hi)
  split at h
  · rename_i r hr
    rw [eqA_eq _ _ h] at hr
    exact evQ_fast 1000 hr
  · cases h
theorem name_ev : EvQ Cx 70 [i8 2] (.v (.string ⟨#[109, 101, 115, 105]⟩)) := evQ_fast 1000 (by kernel_rfl)
def txtB : ByteArray := match big57 with | .v (.string s) => s | _ => ⟨#[]⟩
theorem txtB_eq : big57 = .v (.string txtB) := by rfl
theorem text_ev : EvQ Cx 72 [i8 2] (.v (.string txtB)) := evQ_fast 1000 (by kernel_rfl)
def c71 : List A := match r71_0 with | .tup (.agg l :: _) => l | _ => []
theorem r71_eq : r71_0 = .tup [.agg c71, i64 0, i64 0] := by rfl
def vs1 : List Value := match valsA c71 with | some v => v | none => []
theorem vs1_some : (valsA c71).isSome = true := by kernel_rfl
theorem vs1_ok : valsA c71 = some vs1 := by
  unfold vs1
  have h := vs1_some
  cases hv : valsA c71 with
  | none => rw [hv] at h; cases h
  | some v => rfl
theorem vs1_len : Nat.beq vs1.length 565 = true := by kernel_rfl
def decI : List A → List Nat
  | .v (.bool h) :: .v (.int _ s) :: .v (.int _ o) :: l => (match placeN h s o with | some i => i | none => 188) :: decI l
  | _ => []
def holesL : List Nat := match r109_0 with | .sl _ cs => decI cs | _ => []
theorem holes_eq : eqA r109_0 (.sl holesL.length (encI holesL)) = true := by kernel_rfl
theorem holes_lt : holesL.all (fun i => Nat.blt i 188) = true := by kernel_rfl
theorem holes_len : Nat.ble holesL.length 1000 = true := by kernel_rfl
noncomputable def XB : FuncId → List A → Option A := XE (CX X2) [71] (XE (CX X3) [109] (XE Cx [70, 72, 75, 110] fun _ _ => none))
theorem XB_ok : QOk Cx.T Tryz.prog XB := XE_ok (CX_ok X2_ok) rfl (XE_ok (CX_ok X3_ok) rfl (XE_ok CxOk rfl qOk_none))
theorem XB_cx {f : FuncId} {l : List A} {r : A} (hf : f ∈ [70, 72, 75, 110]) (h1 : f ∉ [71]) (h2 : f ∉ [109]) (h : EvQ Cx f l r) : EvQ (CA XB) f l r := evQ_ext (by
  show XB f l = some r
  unfold XB
  rw [XE_miss h1, XE_miss h2]
  exact XE_hit hf h)
theorem XB_none {f : FuncId} (h : f ∉ [71]) (h2 : f ∉ [109]) (h3 : f ∉ [70, 72, 75, 110]) : XB f = fun _ => none := by
  funext l
  unfold XB
  rw [XE_miss h, XE_miss h2, XE_miss h3]
theorem make_mesi : EvQ (CA XB) 38 [i8 2] (.tup [.agg ((fillM wtM holesL vs1).map .v), i64 0]) := by
  obtain ⟨hc, h1⟩ := valsA_ok vs1_ok
  have hv : vs1.length = 565 := Nat.eq_of_beq_eq_true vs1_len
  have h71 : EvQ (CA XB) 71 [.v (.string txtB)] (.tup [.agg (vs1.map .v), i64 0, i64 0]) := evQ_ext (by
    show XB 71 _ = _
    refine XE_hit (by simp) ?_
    have := q71_0
    rw [r71_eq, hc] at this
    exact this)
  have h109 : EvQ (CA XB) 109 [.agg (vs1.map .v)] (.sl holesL.length (encI holesL)) := evQ_ext (by
    show XB 109 _ = _
    unfold XB
    rw [XE_miss (by simp)]
    refine XE_hit (by simp) ?_
    have := q109_0
    rw [eqA_eq _ _ holes_eq] at this
    have ha : a109_0 = [.agg c71] := by rfl
    rw [ha, hc] at this
    exact this)
  exact make_ev (XB_none (by decide) (by decide) (by decide)) (XB_none (by decide) (by decide) (by decide)) (fun i hi => XB_cx (by decide) (by decide) (by decide) (waits_ev i hi))
    (fun vs i c1 c2 c3 a1 a2 a3 => XB_cx (by decide) (by decide) (by decide) (set_ev a1 a2 a3 c1 c2 c3)) (nm := ⟨#[109, 101, 115, 105]⟩) (by kernel_rfl) (XB_cx (by decide) (by decide) (by decide) name_ev) (XB_cx (by decide) (by decide) (by decide) text_ev) hv h1 h71
    (fun i hi => Nat.le_of_ble_eq_true (List.all_eq_true.1 holes_lt i hi)) (by have := Nat.le_of_ble_eq_true holes_len; omega) h109
theorem make_lit : eqA (.tup [.agg ((fillM wtM holesL vs1).map .v), i64 0]) r38_0 = true := by kernel_rfl
theorem q38_0 : EvQ (CA XB) 38 a38_0 r38_0 := by
  rw [← eqA_eq _ _ make_lit]
  exact make_mesi
def mt38 : List (List A × A) := [(a38_0, r38_0)]
theorem mt38_ok : ∀ p ∈ mt38, EvQ (CA XB) 38 p.1 p.2 := by
  unfold mt38
  simp only [List.forall_mem_cons, List.not_mem_nil, false_implies, implies_true, and_true]
  exact q38_0
def X5 : FuncId → List A → Option A := orX 38 mt38 (orX 76 mt76 (orX 17 mt17 X3))
theorem X5_ok : QOk Cx.T Tryz.prog X5 := orE_ok (CA_ok XB_ok) rfl mt38_ok (orX_ok X3_ok mt76_ok (orX_ok X3_ok mt17_ok X3_ok))
end Go.Proofs.YtnhknhniemfnjaaGreatDoor.Ev
namespace Go.Proofs.YtnhknhniemfnjaaGreatDoor.Ev
open Go Go.RowKit
set_option maxRecDepth 1000000
def CZ : Ctx := ⟨Cx.T, fun f => bif Nat.beq f 20 then some { fn20 with mode := .shut } else Cx.B f, X5, xOut⟩
theorem CZ_ok : CtxOk Tryz.prog CZ := ⟨CxOk.mixed, CxOk.types, CxOk.loops, by
  intro f m h
  have h' : (bif Nat.beq f 20 then some { fn20 with mode := .shut } else Cx.B f) = some m := h
  cases hb : Nat.beq f 20 with
  | true =>
    rw [hb] at h'
    obtain rfl := Option.some.inj h'
    obtain rfl := Nat.eq_of_beq_eq_true hb
    exact fnOk20
  | false =>
    rw [hb] at h'
    exact CxOk.fns f m h', X5_ok, xOut_ok⟩
theorem awake_ev : EvQ CZ 8 [] (bo true) := evQ_fast 100000 (by kernel_rfl)
end Go.Proofs.YtnhknhniemfnjaaGreatDoor.Ev
