/- table.Set: what it gives. -/
import Derived.Test.YtnhknhniemfnjaaGreatDoorF2
set_option linter.unusedSimpArgs false
set_option linter.unusedVariables false
namespace Go.Proofs.YtnhknhniemfnjaaGreatDoor.Ev
open Go Go.RowKit
set_option maxRecDepth 100000
theorem fz_vals {H : Heap} {n : Nat} : ∀ vs : List Value, mapO (freeze H (n + 1)) (vs.map .v) = some (vs.map .v)
  | [] => rfl
  | v :: vs => by
    rw [List.map_cons, mapO_cons, fz_v, fz_vals vs]
/-- The parts of a place. -/
def pH (i : Nat) : Bool := bif Nat.blt i 168 then false else true
def pS (i : Nat) : Nat := bif Nat.blt i 168 then i / 14 else (i - 168) / 5
def pO (i : Nat) : Nat := bif Nat.blt i 168 then i % 14 else (i - 168) % 5
theorem blt_of {i : Nat} (h : i < 168) : Nat.blt i 168 = true := Nat.ble_eq_true_of_le h
theorem blt_not {i : Nat} (h : ¬ i < 168) : Nat.blt i 168 = false := by
  cases hb : Nat.blt i 168 with
  | false => rfl
  | true => exact absurd (Nat.le_of_ble_eq_true hb) h
theorem place_parts (i : Nat) : placeA i = .agg [bo (pH i), i8 (pS i : Nat), i8 (pO i : Nat)] := by
  unfold placeA pH pS pO
  by_cases h : i < 168
  · rw [if_pos h, blt_of h]
    rfl
  · rw [if_neg h, blt_not h]
    rfl
theorem place_inj {i j : Nat} (h1 : pH i = pH j) (h2 : pS i = pS j) (h3 : pO i = pO j) : i = j := by
  unfold pH at h1
  unfold pS at h2
  unfold pO at h3
  by_cases hi : i < 168 <;> by_cases hj : j < 168 <;> simp only [hi, hj, blt_of, blt_not, cond_true, cond_false, not_false_eq_true] at h1 h2 h3
  · omega
  · cases h1
  · cases h1
  · omega
theorem set_cells {vs : List Value} (hv : vs.length = 565) (h1 : ones (vs.map .v) = true) {i : Nat} (hi : i < 188) (c1 c2 c3 : Int) :
    CellsIt 6 0 5 (fun j H => InS vs (pH i) (pS i : Nat) (pO i : Nat) c1 c2 c3 0 H ∧ j ≤ i) (fun H' => H'[3]? = some (some ⟨42, (putC vs (1 + 3 * i) c1 c2 c3).map .v, true⟩) ∧ H'[4]? = some (some ⟨100, [.v (.int .i64 0)], true⟩) ∧ pending H' 6 = some .back) := by
  refine ⟨fun j H h => h.1.h5, fun j H hj h e dst ms k Q hyes hno => ?_⟩
  rw [place_parts]
  by_cases hij : j = i
  · subst hij
    exact round_yes hv h1 (by omega) h.1 fun H' a1 a2 a3 => hno H' ⟨a1, a2, a3⟩
  · refine round_no h.1 ?_ fun H' a1 => hyes H' ⟨a1, by have := h.2; omega⟩
    rintro ⟨e1, e2, e3⟩
    exact hij (place_inj e1 (by exact_mod_cast e2) (by exact_mod_cast e3))
theorem set_ev {vs : List Value} (hv : vs.length = 565) (h1 : ones (vs.map .v) = true) {i : Nat} (hi : i < 188) (c1 c2 c3 : Int) :
    EvQ Cx 110 [.agg (vs.map .v), placeA i, .agg [i8 c1, i8 c2, .v (.int .u16 c3)]] (.tup [.agg ((putC vs (1 + 3 * i) c1 c2 c3).map .v), i64 0]) := by
  rw [place_parts]
  refine evQ_of CxB110 rfl (by simp [fn110]) ?_
  simp (config := { maxSteps := 10000000 }) (disch := omega) only [i64, i8, bo, fn110, m110, h1, t42, runK_rf, rfK_fn, newRecA, passK_in CxB147 CxP147, fn147, m147, unwK_nil, runK_ret, runK_seq, runK_block, runK_reg, opsK_nil, opsK_cons, wantK_yes, wants, anyK_loud, anyK_quiet, anyK_call, isLoud, heapK_some, quietK_some, retK_back, result, resAll, resOne, calls, callee, opnd, opnds, ofV, look_cons, keepE, put, argE, quietOp, loudOp, cellsA, one, ones, List.length_cons, List.length_nil, List.cons_append, List.nil_append, List.append_nil, List.map_cons, List.map_nil, Option.bind_some, Option.map_some, Bool.and_true, List.isEmpty_nil, List.isEmpty_toArray, Nat.zero_add, true_and, eq_self, reduceCtorEq, ↓reduceIte, Nat.reduceEqDiff, Nat.reduceAdd, Nat.reduceLeDiff, CxT100, ty100]
  refine cells_call (set_cells hv h1 hi c1 c2 c3) ⟨⟨rfl, rfl, rfl, rfl, rfl, rfl, rfl⟩, by omega⟩ (fun H' x h => ?_) (fun H' x h => ?_)
  · have := h.2
    omega
  · obtain ⟨k1, k2, k3⟩ := h
    have hl := putC_len (c1 := c1) (c2 := c2) (c3 := c3) hv (show 1 + 3 * i + 3 ≤ 565 by omega)
    have f3 : (H'.set 6 none)[3]? = some (some ⟨42, (putC vs (1 + 3 * i) c1 c2 c3).map .v, true⟩) := set_other k1 (by decide)
    have f4 : (H'.set 6 none)[4]? = some (some ⟨100, [.v (.int .i64 0)], true⟩) := set_other k2 (by decide)
    generalize putC vs (1 + 3 * i) c1 c2 c3 = ws at *
    have ht : List.take 565 (List.map A.v ws) = List.map A.v ws := List.take_of_length_le (by simp [hl])
    simp (config := { maxSteps := 10000000 }) (disch := omega) only [k3, pendK_some, exK_back, f3, f4, List.length_map, hl, ht, t42, fz_vals, unwK_nil, unwK_code, unwK_ret_blk, FinQ, result, resAll, resOne, look_cons, holdR_shut, fz_v, fz_agg, fz_tup, mapO_nil, mapO_cons, readL, partA, K.agg, List.getElem?_cons_zero, List.length_cons, List.length_nil, List.drop_zero, Option.bind_some, Option.map_some, Nat.zero_add, eq_self, reduceCtorEq, ↓reduceIte, Nat.reduceEqDiff, Nat.reduceLeDiff, CxT100, ty100]
end Go.Proofs.YtnhknhniemfnjaaGreatDoor.Ev
