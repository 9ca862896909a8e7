/- GeoOnce: the call's contract. -/
import Derived.Test.YtolkajcgddiceaaDoorF2
set_option linter.unusedSimpArgs false
set_option linter.unusedVariables false
namespace Go.Proofs.YtolkajcgddiceaaDoor
open Go.RowKit
theorem gl_of_bnd {w : World} (h : Bnd w) : Ev.Gl Ev.Cx.T.gl (fun _ => False) w := by
  intro g xs hg
  have hm := Ev.lookL_mem hg
  simp only [Ev.glList, Ev.glGeo, List.mem_singleton, Prod.mk.injEq] at hm
  obtain ⟨rfl, rfl⟩ := hm
  refine ⟨fun h => h, h.sz, fun i x hx => ?_⟩
  match i, hx with
  | 0, hx => simp at hx; subst hx; exact h.c0
  | 1, hx => simp at hx; subst hx; exact h.c1
  | 2, hx => simp at hx; subst hx; exact h.c2
  | 3, hx => simp at hx; subst hx; exact h.c3
  | 4, hx => simp at hx; subst hx; exact h.c4
theorem bool_calls {f : FuncId} {zs : List Ev.A} (h : Ev.EvQ Ev.Cx f zs (.v (.bool true))) {w : World} (hw : Bnd w) {ys : List Value} (hr : Ev.RL [] (fun _ => False) w zs ys) :
    Calls Tryd.prog f ys.toArray w fun e w' => e = .returned (.bool true) ∧ Below w.heap.size w w' := by
  refine (h.calls Ev.CxOk w ys (gl_of_bnd hw) hr).mono ?_
  rintro e w' ⟨v, rfl, hg, hv⟩
  rw [Ev.R] at hv
  exact ⟨by rw [hv], hg⟩
theorem GeoOnce_any (c h o s y : Int) (w : World) (hw : Bnd w) :
    Calls Tryd.prog 3 #[.agg #[.int .i64 c, .int .i64 h, .int .i64 o, .int .i64 s, .int .i64 y]] w fun e w' => e = .returned (.bool true) ∧ Below w.heap.size w w' :=
  bool_calls (ys := [.agg #[.int .i64 c, .int .i64 h, .int .i64 o, .int .i64 s, .int .i64 y]]) (Ev.GeoOnce_ev c h o s y) hw (Ev.RL.cons (by
    rw [Ev.R]
    exact ⟨_, rfl, Ev.RL.exact [.int .i64 c, .int .i64 h, .int .i64 o, .int .i64 s, .int .i64 y]⟩) Ev.RL.nil)
end Go.Proofs.YtolkajcgddiceaaDoor
