/- table.cells: its loop, for whatever is done in a round. -/
import Derived.Test.YtnhknhniemfnjaaGreatDoorF1
set_option linter.unusedSimpArgs false
set_option linter.unusedVariables false
namespace Go.Proofs.YtnhknhniemfnjaaGreatDoor.Ev
open Go Go.RowKit
set_option maxRecDepth 100000
abbrev i64 (n : Int) : A := .v (.int .i64 n)
def placeA (i : Nat) : A := if i < 168 then .agg [bo false, i8 (i / 14 : Nat), i8 (i % 14 : Nat)] else .agg [bo true, i8 ((i - 168) / 5 : Nat), i8 ((i - 168) % 5 : Nat)]
/-- What a round does: on to the next place, or out. -/
structure CellsIt (b tb c : Nat) (I : Nat → Heap → Prop) (F : Heap → Prop) : Prop where
  cap : ∀ i H, I i H → H[c]? = some (some ⟨177, [.ptr tb 0], true⟩)
  round : ∀ i H, i < 188 → I i H → ∀ (e : Env) (dst : Option Nat) (ms : List MOp) (k : List It) (Q : Ex → St → Prop), (∀ H', I (i + 1) H' → OpsK Cx 0 ms ⟨put e dst (bo true), H'⟩ k Q) → (∀ H', F H' → OpsK Cx 0 ms ⟨put e dst (bo false), H'⟩ k Q) →
    YlK Cx b [placeA i, .ptr tb (1 + 3 * i)] dst ms ⟨e, H⟩ k Q
variable {b tb c : Nat} {I : Nat → Heap → Prop} {F : Heap → Prop}
theorem place_c {x y : Nat} (hx : x < 12) (hy : y < 14) : placeA (14 * x + y) = .agg [bo false, i8 x, i8 y] := by
  unfold placeA
  rw [if_pos (by omega), show (14 * x + y) / 14 = x by omega, show (14 * x + y) % 14 = y by omega]
theorem place_h {x y : Nat} (hy : y < 5) : placeA (168 + (5 * x + y)) = .agg [bo true, i8 x, i8 y] := by
  unfold placeA
  rw [if_neg (by omega), show (168 + (5 * x + y) - 168) / 5 = x by omega, show (168 + (5 * x + y) - 168) % 5 = y by omega]
theorem inner1 (h : CellsIt b tb c I F) {x : Nat} (hx : x < 12) {KK : List It} {Q : Ex → St → Prop} (hret : ∀ H' e', F H' → UnwK Cx .back KK ⟨e', H'⟩ Q)
    (hexit : ∀ H', I (14 * x + 14) H' → UnwK Cx (.out 2) KK ⟨[(11, bo false), (0, .yl b), (1, .ptr c 0), (3, i64 x), (7, i64 x), (10, i64 14)], H'⟩ Q) :
    ∀ (n y : Nat) (H : Heap), y + n = 14 → I (14 * x + y) H → RunK Cx (.code (.loop m164_l1) :: KK) ⟨[(0, .yl b), (1, .ptr c 0), (3, i64 x), (7, i64 x), (10, i64 y)], H⟩ Q := by
  intro n
  induction n with
  | zero =>
    intro y H hy hI
    obtain rfl : y = 14 := by omega
    rw [runK_loop]
    simp (config := { maxSteps := 10000000 }) (disch := omega) only [i64, u164_l1, unwK_code, unwK_lp, runK_exit, runK_seq, runK_cond, condK_known, runK_reg, opsK_nil, opsK_cons, wantK_yes, wants, anyK_quiet, isLoud, quietK_some, calls, opnd, ofV, look_cons, keepE, put, quietOp, binV, cond_false, eq_self, reduceCtorEq, ↓reduceIte, Nat.reduceEqDiff, dec_no]
    exact hexit H hI
  | succ n ih =>
    intro y H hy hI
    have hcap := h.cap _ H hI
    rw [runK_loop]
    simp (config := { maxSteps := 10000000 }) (disch := omega) only [i64, u164_l1, anyK_yl, hcap, t42, t38, t37, runK_skip, runK_seq, runK_block, runK_cond, condK_known, runK_reg, opsK_nil, opsK_cons, wantK_yes, wants, anyK_quiet, isLoud, quietK_some, calls, callee, opnd, opnds, ofV, look_cons, keepE, put, quietOp, readL, partA, cellsA, binV, fillA, partsA, placesOf, K.agg, cond_true, List.getElem?_cons_zero, List.getElem?_cons_succ, List.length_cons, List.length_nil, List.drop_zero, List.drop_succ_cons, List.drop_nil, List.take_succ_cons, List.take_zero, List.cons_append, List.nil_append, List.append_nil, List.map_cons, List.map_nil, Option.bind_some, Option.map_some, Nat.zero_add, and_self, eq_self, reduceCtorEq, ↓reduceIte, Nat.reduceEqDiff, Nat.reduceAdd, Nat.reduceLeDiff, Nat.reduceLT, Int.toNat_natCast, ite_yes, dec_yes, wrap_u8, CxT3, ty3, CxT4, ty4, CxT5, ty5, CxT36, ty36, CxT148, ty148, CxT177, ty177]
    have ep : [A.agg [A.v (Value.bool false), A.v (Value.int IntKind.u8 ↑x), A.v (Value.int IntKind.u8 ↑y)], A.ptr tb (1 + x * 42 + y * 3)] = [placeA (14 * x + y), .ptr tb (1 + 3 * (14 * x + y))] := by
      rw [place_c hx (by omega), show 1 + x * 42 + y * 3 = 1 + 3 * (14 * x + y) by omega]
    rw [ep]
    refine h.round _ H (by omega) hI _ _ _ _ _ (fun H' hI' => ?_) (fun H' hF => ?_)
    · simp (config := { maxSteps := 10000000 }) (disch := omega) only [bo, runK_blk, runK_lp, runK_skip, runK_cond, condK_known, runK_reg, opsK_nil, opsK_cons, wantK_yes, wants, anyK_quiet, isLoud, quietK_some, calls, opnd, ofV, look_cons, keepE, put, quietOp, binV, cond_false, Bool.not_true, eq_self, reduceCtorEq, ↓reduceIte, Nat.reduceEqDiff, wrap_i64]
      rw [loop_norm (l := [0, 1, 3, 7, 10]) rfl]
      simp (config := { maxSteps := 10000000 }) (disch := omega) only [look_cons, keepE, eq_self, reduceCtorEq, ↓reduceIte, Nat.reduceEqDiff]
      have := ih (y + 1) H' (by omega) (by rwa [show 14 * x + (y + 1) = 14 * x + y + 1 by omega])
      simpa only [i64, Int.natCast_add, Int.natCast_one] using this
    · simp (config := { maxSteps := 10000000 }) (disch := omega) only [bo, unwK_code, unwK_lp, unwK_ret_blk, runK_ret, runK_cond, condK_known, opsK_nil, opsK_cons, wantK_yes, wants, anyK_quiet, isLoud, quietK_some, calls, opnd, look_cons, put, quietOp, cond_true, Bool.not_false, eq_self, ↓reduceIte]
      exact hret _ _ hF
theorem outer1 (h : CellsIt b tb c I F) {KK : List It} {Q : Ex → St → Prop} (hret : ∀ H' e', F H' → UnwK Cx .back KK ⟨e', H'⟩ Q)
    (hexit : ∀ H', I 168 H' → UnwK Cx (.out 0) KK ⟨[(8, bo false), (0, .yl b), (1, .ptr c 0), (7, i64 12)], H'⟩ Q) :
    ∀ (n x : Nat) (H : Heap), x + n = 12 → I (14 * x) H → RunK Cx (.code (.loop m164_l0) :: KK) ⟨[(0, .yl b), (1, .ptr c 0), (7, i64 x)], H⟩ Q := by
  intro n
  induction n with
  | zero =>
    intro x H hx hI
    obtain rfl : x = 12 := by omega
    rw [runK_loop]
    simp (config := { maxSteps := 10000000 }) (disch := omega) only [i64, u164_l0, unwK_code, unwK_lp, runK_exit, runK_seq, runK_cond, condK_known, runK_reg, opsK_nil, opsK_cons, wantK_yes, wants, anyK_quiet, isLoud, quietK_some, calls, opnd, ofV, look_cons, keepE, put, quietOp, binV, cond_false, eq_self, reduceCtorEq, ↓reduceIte, Nat.reduceEqDiff, dec_no]
    exact hexit H hI
  | succ n ih =>
    intro x H hx hI
    rw [runK_loop]
    simp (config := { maxSteps := 10000000 }) (disch := omega) only [i64, u164_l0, runK_skip, runK_seq, runK_block, runK_cond, condK_known, runK_reg, opsK_nil, opsK_cons, wantK_yes, wants, anyK_quiet, isLoud, quietK_some, calls, opnd, ofV, look_cons, keepE, put, quietOp, binV, cond_true, eq_self, reduceCtorEq, ↓reduceIte, Nat.reduceEqDiff, dec_yes]
    rw [loop_norm (l := [0, 1, 3, 7, 10]) rfl]
    simp (config := { maxSteps := 10000000 }) (disch := omega) only [look_cons, keepE, eq_self, reduceCtorEq, ↓reduceIte, Nat.reduceEqDiff]
    refine inner1 h (by omega) (fun H' e' hF => ?_) (fun H' hI' => ?_) 14 0 H rfl hI
    · simp (config := { maxSteps := 10000000 }) (disch := omega) only [unwK_code, unwK_lp, unwK_ret_blk]
      exact hret _ _ hF
    · simp (config := { maxSteps := 10000000 }) (disch := omega) only [i64, bo, runK_blk, runK_lp, unwK_blk, runK_reg, opsK_nil, opsK_cons, wantK_yes, wants, anyK_quiet, isLoud, quietK_some, calls, opnd, ofV, look_cons, keepE, put, quietOp, binV, eq_self, reduceCtorEq, ↓reduceIte, Nat.reduceEqDiff, wrap_i64]
      rw [loop_norm (l := [0, 1, 7]) rfl]
      simp (config := { maxSteps := 10000000 }) (disch := omega) only [look_cons, keepE, eq_self, reduceCtorEq, ↓reduceIte, Nat.reduceEqDiff]
      have := ih (x + 1) H' (by omega) (by rwa [show 14 * (x + 1) = 14 * x + 14 by omega])
      simpa only [i64, Int.natCast_add, Int.natCast_one] using this
theorem inner2 (h : CellsIt b tb c I F) {x : Nat} (hx : x < 4) {KK : List It} {Q : Ex → St → Prop} (hret : ∀ H' e', F H' → UnwK Cx .back KK ⟨e', H'⟩ Q)
    (hexit : ∀ H', I (168 + (5 * x + 5)) H' → UnwK Cx (.out 6) KK ⟨[(34, bo false), (0, .yl b), (1, .ptr c 0), (5, i64 x), (30, i64 x), (33, i64 5)], H'⟩ Q) :
    ∀ (n y : Nat) (H : Heap), y + n = 5 → I (168 + (5 * x + y)) H → RunK Cx (.code (.loop m164_l3) :: KK) ⟨[(0, .yl b), (1, .ptr c 0), (5, i64 x), (30, i64 x), (33, i64 y)], H⟩ Q := by
  intro n
  induction n with
  | zero =>
    intro y H hy hI
    obtain rfl : y = 5 := by omega
    rw [runK_loop]
    simp (config := { maxSteps := 10000000 }) (disch := omega) only [i64, u164_l3, unwK_code, unwK_lp, runK_exit, runK_seq, runK_cond, condK_known, runK_reg, opsK_nil, opsK_cons, wantK_yes, wants, anyK_quiet, isLoud, quietK_some, calls, opnd, ofV, look_cons, keepE, put, quietOp, binV, cond_false, eq_self, reduceCtorEq, ↓reduceIte, Nat.reduceEqDiff, dec_no]
    exact hexit H hI
  | succ n ih =>
    intro y H hy hI
    have hcap := h.cap _ H hI
    rw [runK_loop]
    simp (config := { maxSteps := 10000000 }) (disch := omega) only [i64, u164_l3, anyK_yl, hcap, t42, t40, t39, runK_skip, runK_seq, runK_block, runK_cond, condK_known, runK_reg, opsK_nil, opsK_cons, wantK_yes, wants, anyK_quiet, isLoud, quietK_some, calls, callee, opnd, opnds, ofV, look_cons, keepE, put, quietOp, readL, partA, cellsA, binV, fillA, partsA, placesOf, K.agg, cond_true, List.getElem?_cons_zero, List.getElem?_cons_succ, List.length_cons, List.length_nil, List.drop_zero, List.drop_succ_cons, List.drop_nil, List.take_succ_cons, List.take_zero, List.cons_append, List.nil_append, List.append_nil, List.map_cons, List.map_nil, Option.bind_some, Option.map_some, Nat.zero_add, and_self, eq_self, reduceCtorEq, ↓reduceIte, Nat.reduceEqDiff, Nat.reduceAdd, Nat.reduceLeDiff, Nat.reduceLT, Int.toNat_natCast, ite_yes, dec_yes, wrap_u8, CxT3, ty3, CxT4, ty4, CxT5, ty5, CxT36, ty36, CxT148, ty148, CxT177, ty177]
    have ep : [A.agg [A.v (Value.bool true), A.v (Value.int IntKind.u8 ↑x), A.v (Value.int IntKind.u8 ↑y)], A.ptr tb (505 + x * 15 + y * 3)] = [placeA (168 + (5 * x + y)), .ptr tb (1 + 3 * (168 + (5 * x + y)))] := by
      rw [place_h (by omega), show 505 + x * 15 + y * 3 = 1 + 3 * (168 + (5 * x + y)) by omega]
    rw [ep]
    refine h.round _ H (by omega) hI _ _ _ _ _ (fun H' hI' => ?_) (fun H' hF => ?_)
    · simp (config := { maxSteps := 10000000 }) (disch := omega) only [bo, runK_blk, runK_lp, runK_skip, runK_cond, condK_known, runK_reg, opsK_nil, opsK_cons, wantK_yes, wants, anyK_quiet, isLoud, quietK_some, calls, opnd, ofV, look_cons, keepE, put, quietOp, binV, cond_false, Bool.not_true, eq_self, reduceCtorEq, ↓reduceIte, Nat.reduceEqDiff, wrap_i64]
      rw [loop_norm (l := [0, 1, 5, 30, 33]) rfl]
      simp (config := { maxSteps := 10000000 }) (disch := omega) only [look_cons, keepE, eq_self, reduceCtorEq, ↓reduceIte, Nat.reduceEqDiff]
      have := ih (y + 1) H' (by omega) (by rwa [show 168 + (5 * x + (y + 1)) = 168 + (5 * x + y) + 1 by omega])
      simpa only [i64, Int.natCast_add, Int.natCast_one] using this
    · simp (config := { maxSteps := 10000000 }) (disch := omega) only [bo, unwK_code, unwK_lp, unwK_ret_blk, runK_ret, runK_cond, condK_known, opsK_nil, opsK_cons, wantK_yes, wants, anyK_quiet, isLoud, quietK_some, calls, opnd, look_cons, put, quietOp, cond_true, Bool.not_false, eq_self, ↓reduceIte]
      exact hret _ _ hF
theorem outer2 (h : CellsIt b tb c I F) {KK : List It} {Q : Ex → St → Prop} (hret : ∀ H' e', F H' → UnwK Cx .back KK ⟨e', H'⟩ Q)
    (hexit : ∀ H', I 188 H' → UnwK Cx (.out 4) KK ⟨[(31, bo false), (0, .yl b), (1, .ptr c 0), (30, i64 4)], H'⟩ Q) :
    ∀ (n x : Nat) (H : Heap), x + n = 4 → I (168 + 5 * x) H → RunK Cx (.code (.loop m164_l2) :: KK) ⟨[(0, .yl b), (1, .ptr c 0), (30, i64 x)], H⟩ Q := by
  intro n
  induction n with
  | zero =>
    intro x H hx hI
    obtain rfl : x = 4 := by omega
    rw [runK_loop]
    simp (config := { maxSteps := 10000000 }) (disch := omega) only [i64, u164_l2, unwK_code, unwK_lp, runK_exit, runK_seq, runK_cond, condK_known, runK_reg, opsK_nil, opsK_cons, wantK_yes, wants, anyK_quiet, isLoud, quietK_some, calls, opnd, ofV, look_cons, keepE, put, quietOp, binV, cond_false, eq_self, reduceCtorEq, ↓reduceIte, Nat.reduceEqDiff, dec_no]
    exact hexit H hI
  | succ n ih =>
    intro x H hx hI
    rw [runK_loop]
    simp (config := { maxSteps := 10000000 }) (disch := omega) only [i64, u164_l2, runK_skip, runK_seq, runK_block, runK_cond, condK_known, runK_reg, opsK_nil, opsK_cons, wantK_yes, wants, anyK_quiet, isLoud, quietK_some, calls, opnd, ofV, look_cons, keepE, put, quietOp, binV, cond_true, eq_self, reduceCtorEq, ↓reduceIte, Nat.reduceEqDiff, dec_yes]
    rw [loop_norm (l := [0, 1, 5, 30, 33]) rfl]
    simp (config := { maxSteps := 10000000 }) (disch := omega) only [look_cons, keepE, eq_self, reduceCtorEq, ↓reduceIte, Nat.reduceEqDiff]
    refine inner2 h (by omega) (fun H' e' hF => ?_) (fun H' hI' => ?_) 5 0 H rfl hI
    · simp (config := { maxSteps := 10000000 }) (disch := omega) only [unwK_code, unwK_lp, unwK_ret_blk]
      exact hret _ _ hF
    · simp (config := { maxSteps := 10000000 }) (disch := omega) only [i64, bo, runK_blk, runK_lp, unwK_blk, runK_reg, opsK_nil, opsK_cons, wantK_yes, wants, anyK_quiet, isLoud, quietK_some, calls, opnd, ofV, look_cons, keepE, put, quietOp, binV, eq_self, reduceCtorEq, ↓reduceIte, Nat.reduceEqDiff, wrap_i64]
      rw [loop_norm (l := [0, 1, 30]) rfl]
      simp (config := { maxSteps := 10000000 }) (disch := omega) only [look_cons, keepE, eq_self, reduceCtorEq, ↓reduceIte, Nat.reduceEqDiff]
      have := ih (x + 1) H' (by omega) (by rwa [show 168 + 5 * (x + 1) = 168 + (5 * x + 5) by omega])
      simpa only [i64, Int.natCast_add, Int.natCast_one] using this
/-- The whole of it. -/
theorem cells_call (h : CellsIt b tb c I F) {H : Heap} (h0 : I 0 H) {Q : A → Heap → Prop} (hall : ∀ H' x, I 188 H' → Q x H') (hout : ∀ H' x, F H' → Q x H') : CallK Cx 164 [.yl b, .ptr c 0] H Q := by
  rw [callK_in CxB164 CxP164]
  refine ⟨by simp [fn164], ?_⟩
  simp (config := { maxSteps := 10000000 }) (disch := omega) only [fn164, m164, runK_seq, runK_block, runK_reg, opsK_nil, opsK_cons, wantK_yes, wants, anyK_quiet, isLoud, quietK_some, calls, opnd, ofV, look_cons, keepE, put, argE, quietOp, Nat.zero_add, eq_self, reduceCtorEq, ↓reduceIte]
  rw [loop_norm (l := [0, 1, 7]) rfl]
  simp (config := { maxSteps := 10000000 }) (disch := omega) only [look_cons, keepE, eq_self, reduceCtorEq, ↓reduceIte, Nat.reduceEqDiff]
  refine outer1 h (fun H' e' hF => ?_) (fun H' hI' => ?_) 12 0 H rfl h0
  · simp (config := { maxSteps := 10000000 }) (disch := omega) only [unwK_nil, unwK_code, unwK_ret_blk, result, resAll, Option.some.injEq, endK_back]
    exact ⟨_, rfl, hout _ _ hF⟩
  · simp (config := { maxSteps := 10000000 }) (disch := omega) only [i64, bo, unwK_blk, runK_seq, runK_block, runK_reg, opsK_nil, opsK_cons, wantK_yes, wants, anyK_quiet, isLoud, quietK_some, calls, opnd, ofV, look_cons, keepE, put, quietOp, eq_self, reduceCtorEq, ↓reduceIte, Nat.reduceEqDiff]
    rw [loop_norm (l := [0, 1, 30]) rfl]
    simp (config := { maxSteps := 10000000 }) (disch := omega) only [look_cons, keepE, eq_self, reduceCtorEq, ↓reduceIte, Nat.reduceEqDiff]
    refine outer2 h (fun H' e' hF => ?_) (fun H' hI' => ?_) 4 0 H' rfl hI'
    · simp (config := { maxSteps := 10000000 }) (disch := omega) only [unwK_nil, unwK_ret_blk, result, resAll, Option.some.injEq, endK_back]
      exact ⟨_, rfl, hout _ _ hF⟩
    · simp (config := { maxSteps := 10000000 }) (disch := omega) only [runK_nil, unwK_blk, result, resAll, Option.some.injEq, eq_self, ↓reduceIte, endK_go]
      exact ⟨_, rfl, hall _ _ hI'⟩
end Go.Proofs.YtnhknhniemfnjaaGreatDoor.Ev
