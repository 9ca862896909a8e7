/- Geo: functions whose contracts were walked, as the evaluator takes them. -/
import Derived.Test.YtolkajcgddiceaaDoorE22
import Derived.Test.YtolkajcgddiceaaDoorL4
set_option linter.unusedSimpArgs false
set_option linter.unusedVariables false
namespace Go.Proofs.YtolkajcgddiceaaDoor.Ev
open Go Go.RowKit

/-- The tables of package geo. -/
def glGeo : List (Nat × List Value) := [(0, [.int .i64 4, .int .i64 2, .int .i64 4, .int .i64 4, .int .i64 4])]
def u8s (xs : List Int) : List A := xs.map fun x => .v (.int .u8 x)
def xGeo (f : FuncId) (zs : List A) : Option A :=
  if f = 13 then match zs with
    | [.agg [.v (.int .i64 c), .v (.int .i64 h), .v (.int .i64 o), .v (.int .i64 s), .v (.int .i64 y)], .v (.int .u8 l)] => if 0 ≤ l ∧ l ≤ 255 ∧ OkG c h o s y then some (.sl (locsTo o l 6).length (u8s (locsTo o l 6))) else none
    | _ => none
  else if f = 20 then match zs with
    | [.agg [.v (.int .i64 _), .v (.int .i64 _), .v (.int .i64 _), .v (.int .i64 _), .v (.int .i64 _)], .v (.int .u8 l)] => if 0 ≤ l ∧ l ≤ 255 then some (.v (.bool true)) else none
    | _ => none
  else if f = 4 then match zs with
    | [.agg [.v (.int .i64 _), .v (.int .i64 _), .v (.int .i64 _), .v (.int .i64 _), .v (.int .i64 _)], .agg [.v (.int .u8 _), .v (.int .u8 _), .v (.int .u8 _), .v (.int .u8 _)], .v (.int .u8 l), .v (.int .u8 v)] => if (0 ≤ l ∧ l ≤ 255) ∧ 0 ≤ v ∧ v ≤ 255 then some (.v (.bool true)) else none
    | _ => none
  else if f = 9 then match zs with
    | [] => some (.v (.bool true))
    | _ => none
  else none

theorem bnd_of {T : Tb} (hT : T.gl = lookL glGeo) {own : Nat → Prop} {w : World} (h : Gl T.gl own w) : Bnd w := by
  obtain ⟨-, h2, h3⟩ := h 0 [.int .i64 4, .int .i64 2, .int .i64 4, .int .i64 4, .int .i64 4] (by rw [hT]; rfl)
  exact ⟨by simpa using h3 0 _ rfl, by simpa using h3 1 _ rfl, by simpa using h3 2 _ rfl, by simpa using h3 3 _ rfl, by simpa using h3 4 _ rfl, h2⟩
theorem rl_ints {ρ : List Nat} {own : Nat → Prop} {w : World} : ∀ {l : List Value} {ys : List Value}, RL ρ own w (l.map .v) ys → ys = l
  | [], ys, h => by simp only [List.map_nil] at h; rw [RL] at h; exact h
  | x :: l, ys, h => by
    simp only [List.map_cons] at h
    rw [RL] at h
    obtain ⟨y, ys', rfl, h1, h2⟩ := h
    rw [R] at h1
    rw [h1, rl_ints h2]
theorem agg_ints {ρ : List Nat} {own : Nat → Prop} {w : World} {l : List Value} {y : Value} (h : R ρ own w (.agg (l.map .v)) y) : y = .agg l.toArray := by
  rw [R] at h
  obtain ⟨xs, rfl, h2⟩ := h
  rw [rl_ints h2]
theorem enters_of {P : Program} {f : FuncId} {fn : Func} (h1 : P.funcs[f]? = some fn) (h2 : fn.body.isSome = true) (h3 : (fn.name == "runtime.NumGoroutine") = false) : Enters P f := by
  intro args w
  have h5 : ¬ fn.name = "runtime.NumGoroutine" := by simpa using h3
  cases hb : fn.body with
  | none => simp [hb] at h2
  | some b => simp [callFunc, h1, h5, hb]
theorem xGeo_ok {T : Tb} (hT : T.gl = lookL glGeo) : QOk T Tryd.prog xGeo := by
  intro f zs r h
  unfold xGeo at h
  split at h
  · rename_i hf
    subst hf
    split at h
    · rename_i c g o s y l
      split at h
      · rename_i hc
        obtain rfl := Option.some.inj h
        refine ⟨enters_of Tryd.func13 (by kernel_rfl) (by kernel_rfl), fun own w ys ho hg hr => ?_⟩
        have hr' : RL [] own w [.agg ([.int .i64 c, .int .i64 g, .int .i64 o, .int .i64 s, .int .i64 y].map .v), .v (.int .u8 l)] ys := hr
        rw [RL] at hr'
        obtain ⟨y1, ys1, rfl, h1, h2⟩ := hr'
        obtain rfl := agg_ints h1
        obtain rfl := h2.exact_of
        refine (Locs_yes c g o s y w (bnd_of hT hg) hc.2.2 l hc.1 hc.2.1).mono ?_
        rintro e w' ⟨v, rfl, hb, hbel⟩
        refine ⟨v, rfl, hbel, ?_⟩
        rw [R]
        rcases id hb.2 with ⟨rfl, hz⟩ | ⟨gg, cap, cur, rfl, hbase, hgg, hcap, -⟩
        · left
          have : locsTo o l 6 = [] := List.eq_nil_of_length_eq_zero hz
          rw [this]
          exact ⟨rfl, rfl, _, _, rfl⟩
        · right
          refine ⟨gg, 0, cap, (locsTo o l 6).map (Value.int .u8), rfl, hcap, (Array.getElem?_eq_some_iff.1 hgg).1, fun h => by have := ho gg h; omega, ?_, fun i x hx => ?_⟩
          · have := RL.exact (ρ := []) (own := own) (w := w') ((locsTo o l 6).map (Value.int .u8))
            rw [List.map_map] at this
            exact this
          · rw [List.getElem?_map] at hx
            cases hi : (locsTo o l 6)[i]? with
            | none => simp [hi] at hx
            | some z =>
              simp only [hi, Option.map_some, Option.some.injEq] at hx
              subst hx
              have := World.ownsRow.cellAt hb i (by rw [Nat.mul_one]; exact (List.getElem?_eq_some_iff.1 hi).1)
              rw [List.getElem?_map, hi] at this
              simpa using this
      · cases h
    · cases h
  · split at h
    · rename_i hf
      subst hf
      split at h
      · rename_i c g o s y l
        split at h
        · rename_i hc
          obtain rfl := Option.some.inj h
          refine ⟨enters_of Tryd.func20 (by kernel_rfl) (by kernel_rfl), fun own w ys ho hg hr => ?_⟩
          have hr' : RL [] own w [.agg ([.int .i64 c, .int .i64 g, .int .i64 o, .int .i64 s, .int .i64 y].map .v), .v (.int .u8 l)] ys := hr
          rw [RL] at hr'
          obtain ⟨y1, ys1, rfl, h1, h2⟩ := hr'
          obtain rfl := agg_ints h1
          obtain rfl := h2.exact_of
          refine (same_any c g o s y w (bnd_of hT hg) l hc.1 hc.2).mono ?_
          rintro e w' ⟨rfl, hbel⟩
          exact ⟨_, rfl, hbel, by rw [R]⟩
        · cases h
      · cases h
    · split at h
      · rename_i hf
        subst hf
        split at h
        · rename_i c g o s y d0 d1 d2 d3 l v
          split at h
          · rename_i hc
            obtain rfl := Option.some.inj h
            refine ⟨enters_of Tryd.func4 (by kernel_rfl) (by kernel_rfl), fun own w ys ho hg hr => ?_⟩
            have hr' : RL [] own w [.agg ([.int .i64 c, .int .i64 g, .int .i64 o, .int .i64 s, .int .i64 y].map .v), .agg ([.int .u8 d0, .int .u8 d1, .int .u8 d2, .int .u8 d3].map .v), .v (.int .u8 l), .v (.int .u8 v)] ys := hr
            rw [RL] at hr'
            obtain ⟨y1, ys1, rfl, h1, h2⟩ := hr'
            obtain rfl := agg_ints h1
            rw [RL] at h2
            obtain ⟨y2, ys2, rfl, h3, h4⟩ := h2
            obtain rfl := agg_ints h3
            have h5 : ys2 = [.int .u8 l, .int .u8 v] := rl_ints (l := [.int .u8 l, .int .u8 v]) h4
            subst h5
            refine (GeoWords_any c g o s y d0 d1 d2 d3 w (bnd_of hT hg) l hc.1.1 hc.1.2 v hc.2.1 hc.2.2).mono ?_
            rintro e w' ⟨rfl, hbel⟩
            exact ⟨_, rfl, hbel, by rw [R]⟩
          · cases h
        · cases h
      · split at h
        · rename_i hf
          subst hf
          split at h
          · obtain rfl := Option.some.inj h
            refine ⟨enters_of Tryd.func9 (by kernel_rfl) (by kernel_rfl), fun own w ys ho hg hr => ?_⟩
            rw [RL] at hr
            subst hr
            refine (awake_any w (bnd_of hT hg)).mono ?_
            rintro e w' ⟨rfl, hbel⟩
            exact ⟨_, rfl, hbel, by rw [R]⟩
          · cases h
        · cases h
end Go.Proofs.YtolkajcgddiceaaDoor.Ev
