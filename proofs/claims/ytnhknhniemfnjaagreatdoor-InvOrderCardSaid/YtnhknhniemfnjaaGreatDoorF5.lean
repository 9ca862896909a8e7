/- cache.After and the reference's: what an operation leaves. -/
import Derived.Test.YtnhknhniemfnjaaGreatDoorF2
set_option linter.unusedSimpArgs false
set_option linter.unusedVariables false
namespace Go.Proofs.YtnhknhniemfnjaaGreatDoor.Ev
open Go Go.RowKit
set_option maxRecDepth 100000
theorem wrap8 (n : Int) : IntKind.u8.wrap n = n % 256 := by
  simp [IntKind.wrap, IntKind.bits, IntKind.signed]
/-- What an operation leaves. -/
def afterM (kind a b old : Int) : Int := if kind = 2 ∨ kind = 4 then a else if kind = 5 then (old + a) % 256 else if kind = 6 then (if old = a then b else old) else old
theorem afterM_le {kind a b old : Int} (a1 : 0 ≤ a) (a2 : a ≤ 255) (b1 : 0 ≤ b) (b2 : b ≤ 255) (o1 : 0 ≤ old) (o2 : old ≤ 255) : 0 ≤ afterM kind a b old ∧ afterM kind a b old ≤ 255 := by
  unfold afterM
  split
  · omega
  · split
    · omega
    · split
      · split <;> omega
      · omega
theorem after_ev (kind loc a b old : Int) : EvQ Cx 9 [.agg [i8 kind, i8 loc, i8 a, i8 b], i8 old] (i8 (afterM kind a b old)) := by
  refine evQ_of CxB9 rfl (by simp [fn9]) ?_
  by_cases h2 : kind = 2
  · subst h2
    simp (config := { maxSteps := 10000000 }) (disch := omega) only [i8, fn9, m9, afterM, unwK_nil, unwK_code, unwK_ret_blk, runK_skip, runK_ret, runK_seq, runK_block, runK_cond, condK_known, runK_reg, opsK_nil, opsK_cons, wantK_yes, wants, anyK_loud, anyK_quiet, isLoud, beq_self_eq_true, heapK_some, quietK_some, FinQ, result, resAll, resOne, calls, opnd, ofV, look_cons, keepE, put, argE, quietOp, loudOp, holdR_shut, fz_v, readL, partA, cellsA, one, ones, binV, K.agg, cond_true, List.getElem?_cons_zero, List.getElem?_cons_succ, List.length_cons, List.length_nil, List.drop_zero, List.drop_succ_cons, List.nil_append, Option.bind_some, Bool.and_true, Option.some.injEq, A.v.injEq, Value.int.injEq, Nat.zero_add, Nat.add_zero, true_and, eq_self, reduceCtorEq, ↓reduceIte, Nat.reduceEqDiff, Nat.reduceAdd, Nat.reduceLeDiff, Nat.reduceLT, Int.reduceEq, CxT5, ty5, CxT50, ty50]
    simp
  by_cases h4 : kind = 4
  · subst h4
    simp (config := { maxSteps := 10000000 }) (disch := omega) only [i8, fn9, m9, afterM, unwK_nil, unwK_code, unwK_ret_blk, runK_ret, runK_seq, runK_block, runK_cond, condK_known, runK_reg, opsK_nil, opsK_cons, wantK_yes, wants, anyK_loud, anyK_quiet, isLoud, beq_self_eq_true, heapK_some, quietK_some, FinQ, result, resAll, resOne, calls, opnd, ofV, look_cons, keepE, put, argE, quietOp, loudOp, holdR_shut, fz_v, readL, partA, cellsA, one, ones, binV, K.agg, cond_true, cond_false, List.getElem?_cons_zero, List.getElem?_cons_succ, List.length_cons, List.length_nil, List.drop_zero, List.drop_succ_cons, List.nil_append, Option.bind_some, Bool.and_true, Option.some.injEq, A.v.injEq, Value.int.injEq, Nat.zero_add, Nat.add_zero, true_and, eq_self, reduceCtorEq, ↓reduceIte, Nat.reduceEqDiff, Nat.reduceAdd, Nat.reduceLeDiff, Nat.reduceLT, Int.reduceEq, beq_no, CxT5, ty5, CxT50, ty50]
    simp
  by_cases h5 : kind = 5
  · subst h5
    simp (config := { maxSteps := 10000000 }) (disch := omega) only [i8, fn9, m9, afterM, wrap8, unwK_nil, unwK_code, unwK_ret_blk, runK_ret, runK_seq, runK_block, runK_cond, condK_known, runK_reg, opsK_nil, opsK_cons, wantK_yes, wants, anyK_loud, anyK_quiet, isLoud, beq_self_eq_true, heapK_some, quietK_some, FinQ, result, resAll, resOne, calls, opnd, ofV, look_cons, keepE, put, argE, quietOp, loudOp, holdR_shut, fz_v, readL, partA, cellsA, one, ones, binV, K.agg, cond_true, cond_false, List.getElem?_cons_zero, List.getElem?_cons_succ, List.length_cons, List.length_nil, List.drop_zero, List.drop_succ_cons, List.nil_append, Option.bind_some, Bool.and_true, Option.some.injEq, A.v.injEq, Value.int.injEq, Nat.zero_add, Nat.add_zero, true_and, eq_self, reduceCtorEq, ↓reduceIte, Nat.reduceEqDiff, Nat.reduceAdd, Nat.reduceLeDiff, Nat.reduceLT, Int.reduceEq, beq_no, CxT5, ty5, CxT50, ty50]
    simp
  by_cases h6 : kind = 6
  · subst h6
    by_cases ho : old = a
    · subst ho
      simp (config := { maxSteps := 10000000 }) (disch := omega) only [i8, fn9, m9, afterM, unwK_nil, unwK_code, unwK_ret_blk, runK_ret, runK_seq, runK_block, runK_cond, condK_known, runK_reg, opsK_nil, opsK_cons, wantK_yes, wants, anyK_loud, anyK_quiet, isLoud, beq_self_eq_true, heapK_some, quietK_some, FinQ, result, resAll, resOne, calls, opnd, ofV, look_cons, keepE, put, argE, quietOp, loudOp, holdR_shut, fz_v, readL, partA, cellsA, one, ones, binV, K.agg, cond_true, cond_false, List.getElem?_cons_zero, List.getElem?_cons_succ, List.length_cons, List.length_nil, List.drop_zero, List.drop_succ_cons, List.nil_append, Option.bind_some, Bool.and_true, Option.some.injEq, A.v.injEq, Value.int.injEq, Nat.zero_add, Nat.add_zero, true_and, eq_self, reduceCtorEq, ↓reduceIte, Nat.reduceEqDiff, Nat.reduceAdd, Nat.reduceLeDiff, Nat.reduceLT, Int.reduceEq, beq_no, CxT5, ty5, CxT50, ty50]
      simp
    · simp (config := { maxSteps := 10000000 }) (disch := omega) only [i8, fn9, m9, afterM, beq_no ho, ho, runK_blk, unwK_nil, runK_skip, runK_ret, runK_seq, runK_block, runK_cond, condK_known, runK_reg, opsK_nil, opsK_cons, wantK_yes, wants, anyK_loud, anyK_quiet, isLoud, beq_self_eq_true, heapK_some, quietK_some, FinQ, result, resAll, resOne, calls, opnd, ofV, look_cons, keepE, put, argE, quietOp, loudOp, holdR_shut, fz_v, readL, partA, cellsA, one, ones, binV, K.agg, cond_true, cond_false, List.getElem?_cons_zero, List.getElem?_cons_succ, List.length_cons, List.length_nil, List.drop_zero, List.drop_succ_cons, List.nil_append, Option.bind_some, Bool.and_true, Option.some.injEq, A.v.injEq, Value.int.injEq, Nat.zero_add, Nat.add_zero, true_and, eq_self, reduceCtorEq, ↓reduceIte, Nat.reduceEqDiff, Nat.reduceAdd, Nat.reduceLeDiff, Nat.reduceLT, Int.reduceEq, beq_no, CxT5, ty5, CxT50, ty50]
      simp
  · simp (config := { maxSteps := 10000000 }) (disch := omega) only [i8, fn9, m9, afterM, beq_no h2, beq_no h4, beq_no h5, beq_no h6, h2, h4, h5, h6, runK_blk, unwK_nil, runK_skip, runK_ret, runK_seq, runK_block, runK_cond, condK_known, runK_reg, opsK_nil, opsK_cons, wantK_yes, wants, anyK_loud, anyK_quiet, isLoud, heapK_some, quietK_some, FinQ, result, resAll, resOne, calls, opnd, ofV, look_cons, keepE, put, argE, quietOp, loudOp, holdR_shut, fz_v, readL, partA, cellsA, one, ones, binV, K.agg, cond_false, List.getElem?_cons_zero, List.length_cons, List.length_nil, List.drop_zero, List.nil_append, Option.bind_some, Bool.and_true, Option.some.injEq, A.v.injEq, Value.int.injEq, Nat.zero_add, Nat.add_zero, true_and, eq_self, reduceCtorEq, ↓reduceIte, Nat.reduceEqDiff, Nat.reduceAdd, Nat.reduceLeDiff, Nat.reduceLT, CxT5, ty5, CxT50, ty50]
    simp
theorem refAfter_ev {kind loc a b old : Int} (a1 : 0 ≤ a) (a2 : a ≤ 255) (o1 : 0 ≤ old) (o2 : old ≤ 255) : EvQ Cx 19 [.agg [i8 kind, i8 loc, i8 a, i8 b], i8 old] (i8 (afterM kind a b old)) := by
  refine evQ_of CxB19 rfl (by simp [fn19]) ?_
  by_cases h2 : kind = 2
  · subst h2
    simp (config := { maxSteps := 10000000 }) (disch := omega) only [i8, fn19, m19, afterM, unwK_nil, unwK_code, unwK_ret_blk, runK_skip, runK_ret, runK_seq, runK_block, runK_cond, condK_known, runK_reg, opsK_nil, opsK_cons, wantK_yes, wants, anyK_loud, anyK_quiet, isLoud, beq_self_eq_true, heapK_some, quietK_some, FinQ, result, resAll, resOne, calls, opnd, ofV, look_cons, keepE, put, argE, quietOp, loudOp, holdR_shut, fz_v, readL, partA, cellsA, one, ones, binV, K.agg, cond_true, List.getElem?_cons_zero, List.getElem?_cons_succ, List.length_cons, List.length_nil, List.drop_zero, List.drop_succ_cons, List.nil_append, Option.bind_some, Bool.and_true, Option.some.injEq, A.v.injEq, Value.int.injEq, Nat.zero_add, Nat.add_zero, true_and, eq_self, reduceCtorEq, ↓reduceIte, Nat.reduceEqDiff, Nat.reduceAdd, Nat.reduceLeDiff, Nat.reduceLT, Int.reduceEq, CxT5, ty5, CxT50, ty50]
    simp
  by_cases h4 : kind = 4
  · subst h4
    simp (config := { maxSteps := 10000000 }) (disch := omega) only [i8, fn19, m19, afterM, unwK_nil, unwK_code, unwK_ret_blk, runK_ret, runK_seq, runK_block, runK_cond, condK_known, runK_reg, opsK_nil, opsK_cons, wantK_yes, wants, anyK_loud, anyK_quiet, isLoud, beq_self_eq_true, heapK_some, quietK_some, FinQ, result, resAll, resOne, calls, opnd, ofV, look_cons, keepE, put, argE, quietOp, loudOp, holdR_shut, fz_v, readL, partA, cellsA, one, ones, binV, K.agg, cond_true, cond_false, List.getElem?_cons_zero, List.getElem?_cons_succ, List.length_cons, List.length_nil, List.drop_zero, List.drop_succ_cons, List.nil_append, Option.bind_some, Bool.and_true, Option.some.injEq, A.v.injEq, Value.int.injEq, Nat.zero_add, Nat.add_zero, true_and, eq_self, reduceCtorEq, ↓reduceIte, Nat.reduceEqDiff, Nat.reduceAdd, Nat.reduceLeDiff, Nat.reduceLT, Int.reduceEq, beq_no, CxT5, ty5, CxT50, ty50]
    simp
  by_cases h5 : kind = 5
  · subst h5
    have hw : IntKind.i64.wrap (old + a) = old + a := wrap_i64 (by omega) (by omega)
    have ht : (old + a).tmod 256 = (old + a) % 256 := tmod_pos (by omega)
    simp (config := { maxSteps := 10000000 }) (disch := omega) only [i8, fn19, m19, afterM, wrap8, hw, ht, wrap_i64 (show -9223372036854775808 ≤ old by omega) (by omega), wrap_i64 (show -9223372036854775808 ≤ a by omega) (by omega), unwK_nil, unwK_code, unwK_ret_blk, runK_ret, runK_seq, runK_block, runK_cond, condK_known, runK_reg, opsK_nil, opsK_cons, wantK_yes, wants, anyK_loud, anyK_quiet, isLoud, beq_self_eq_true, heapK_some, quietK_some, FinQ, result, resAll, resOne, calls, opnd, ofV, look_cons, keepE, put, argE, quietOp, loudOp, holdR_shut, fz_v, readL, partA, cellsA, one, ones, binV, K.agg, cond_true, cond_false, List.getElem?_cons_zero, List.getElem?_cons_succ, List.length_cons, List.length_nil, List.drop_zero, List.drop_succ_cons, List.nil_append, Option.bind_some, Bool.and_true, Option.some.injEq, A.v.injEq, Value.int.injEq, Nat.zero_add, Nat.add_zero, true_and, eq_self, reduceCtorEq, ↓reduceIte, Nat.reduceEqDiff, Nat.reduceAdd, Nat.reduceLeDiff, Nat.reduceLT, Int.reduceEq, beq_no, CxT3, ty3, CxT5, ty5, CxT50, ty50]
    simp
  by_cases h6 : kind = 6
  · subst h6
    by_cases ho : old = a
    · subst ho
      simp (config := { maxSteps := 10000000 }) (disch := omega) only [i8, fn19, m19, afterM, unwK_nil, unwK_code, unwK_ret_blk, runK_ret, runK_seq, runK_block, runK_cond, condK_known, runK_reg, opsK_nil, opsK_cons, wantK_yes, wants, anyK_loud, anyK_quiet, isLoud, beq_self_eq_true, heapK_some, quietK_some, FinQ, result, resAll, resOne, calls, opnd, ofV, look_cons, keepE, put, argE, quietOp, loudOp, holdR_shut, fz_v, readL, partA, cellsA, one, ones, binV, K.agg, cond_true, cond_false, List.getElem?_cons_zero, List.getElem?_cons_succ, List.length_cons, List.length_nil, List.drop_zero, List.drop_succ_cons, List.nil_append, Option.bind_some, Bool.and_true, Option.some.injEq, A.v.injEq, Value.int.injEq, Nat.zero_add, Nat.add_zero, true_and, eq_self, reduceCtorEq, ↓reduceIte, Nat.reduceEqDiff, Nat.reduceAdd, Nat.reduceLeDiff, Nat.reduceLT, Int.reduceEq, beq_no, CxT5, ty5, CxT50, ty50]
      simp
    · simp (config := { maxSteps := 10000000 }) (disch := omega) only [i8, fn19, m19, afterM, beq_no ho, ho, runK_blk, unwK_nil, runK_skip, runK_ret, runK_seq, runK_block, runK_cond, condK_known, runK_reg, opsK_nil, opsK_cons, wantK_yes, wants, anyK_loud, anyK_quiet, isLoud, beq_self_eq_true, heapK_some, quietK_some, FinQ, result, resAll, resOne, calls, opnd, ofV, look_cons, keepE, put, argE, quietOp, loudOp, holdR_shut, fz_v, readL, partA, cellsA, one, ones, binV, K.agg, cond_true, cond_false, List.getElem?_cons_zero, List.getElem?_cons_succ, List.length_cons, List.length_nil, List.drop_zero, List.drop_succ_cons, List.nil_append, Option.bind_some, Bool.and_true, Option.some.injEq, A.v.injEq, Value.int.injEq, Nat.zero_add, Nat.add_zero, true_and, eq_self, reduceCtorEq, ↓reduceIte, Nat.reduceEqDiff, Nat.reduceAdd, Nat.reduceLeDiff, Nat.reduceLT, Int.reduceEq, beq_no, CxT5, ty5, CxT50, ty50]
      simp
  · simp (config := { maxSteps := 10000000 }) (disch := omega) only [i8, fn19, m19, afterM, beq_no h2, beq_no h4, beq_no h5, beq_no h6, h2, h4, h5, h6, runK_blk, unwK_nil, runK_skip, runK_ret, runK_seq, runK_block, runK_cond, condK_known, runK_reg, opsK_nil, opsK_cons, wantK_yes, wants, anyK_loud, anyK_quiet, isLoud, heapK_some, quietK_some, FinQ, result, resAll, resOne, calls, opnd, ofV, look_cons, keepE, put, argE, quietOp, loudOp, holdR_shut, fz_v, readL, partA, cellsA, one, ones, binV, K.agg, cond_false, List.getElem?_cons_zero, List.length_cons, List.length_nil, List.drop_zero, List.nil_append, Option.bind_some, Bool.and_true, Option.some.injEq, A.v.injEq, Value.int.injEq, Nat.zero_add, Nat.add_zero, true_and, eq_self, reduceCtorEq, ↓reduceIte, Nat.reduceEqDiff, Nat.reduceAdd, Nat.reduceLeDiff, Nat.reduceLT, CxT5, ty5, CxT50, ty50]
    simp
end Go.Proofs.YtnhknhniemfnjaaGreatDoor.Ev
