/- The reference's Atomic; the law InvMemory, as far as the examples are known. -/
import Derived.Test.YtnhknhniemfnjaaGreatDoorF7
set_option linter.unusedSimpArgs false
set_option linter.unusedVariables false
namespace Go.Proofs.YtnhknhniemfnjaaGreatDoor.Ev
open Go Go.RowKit
set_option maxRecDepth 100000
set_option maxHeartbeats 8000000 in
theorem refAtomic_ev {cs : List A} (hl : cs.length = 585) (h1 : ones cs = true) {g : Int} (hg : cs[10]? = some (i64 g)) {ini : List Int} (hi : cs[2]? = some (.sl ini.length (ini.map i8))) (hin : ini.length ≤ 4611686018427387904) {l : List Pf} (hok : ∀ p ∈ l, p.Ok) (hn : l.length ≤ 4611686018427387904) :
    EvQ Cx 7 [.agg cs, .sl l.length (encL l)] (bo (atomM g l (initM ini))) := by
  refine evQ_of CxB7 rfl (by simp [fn7]) ?_
  simp (config := { maxSteps := 10000000 }) (disch := omega) only [bo, fn7, m7, h1, runK_seq, runK_block, runK_reg, opsK_nil, opsK_cons, wantK_yes, wants, anyK_loud, anyK_quiet, isLoud, heapK_some, quietK_some, calls, opnd, ofV, look_cons, keepE, put, argE, quietOp, loudOp, cellsA, List.length_nil, List.nil_append, Nat.zero_add, eq_self, reduceCtorEq, ↓reduceIte, Nat.reduceEqDiff]
  rw [loop_norm (l := [1, 2, 5]) rfl]
  simp (config := { maxSteps := 10000000 }) (disch := omega) only [look_cons, keepE, eq_self, ↓reduceIte, Nat.reduceEqDiff]
  refine loop7 hl hg hi hin l [] _ rfl hok hn (fun hz e H' => ?_) (fun hz H' => ?_)
  · have hz' : atomM g l (initM ini) = true := hz
    simp (config := { maxSteps := 10000000 }) (disch := omega) only [hz', unwK_nil, unwK_blk, runK_ret, runK_seq, runK_reg, opsK_nil, opsK_cons, wantK_yes, wants, anyK_quiet, isLoud, quietK_some, FinQ, result, resAll, resOne, calls, opnd, ofV, look_cons, keepE, put, quietOp, holdR_shut, fz_v, Option.bind_some, eq_self, ↓reduceIte]
  · have hz' : atomM g l (initM ini) = false := hz
    simp (config := { maxSteps := 10000000 }) (disch := omega) only [bo, hz', unwK_nil, unwK_code, unwK_ret_blk, FinQ, result, resAll, resOne, look_cons, holdR_shut, fz_v, Option.bind_some, eq_self, ↓reduceIte]
/-- The program, with what the law asks of Atomic and the examples known. -/
def CA (X : FuncId → List A → Option A) : Ctx := ⟨Cx.T, Cx.B, X, fun _ => none⟩
theorem CA_ok {X : FuncId → List A → Option A} (h : QOk Cx.T Tryz.prog X) : CtxOk Tryz.prog (CA X) := ⟨CxOk.mixed, CxOk.types, CxOk.loops, CxOk.fns, h, fun _ _ _ _ _ _ h => by cases h⟩
theorem CA_T {X : FuncId → List A → Option A} : (CA X).T = Cx.T := rfl
open Classical in
noncomputable def XA (l0 : List A) (b : Bool) (f : FuncId) (l : List A) : Option A :=
  if f = 8 ∧ l = [] then some (bo true) else if (f = 6 ∨ f = 7) ∧ l = l0 then some (bo b) else none
set_option maxHeartbeats 8000000 in
theorem invMemory_ev {cs : List A} (hl : cs.length = 585) (h1 : ones cs = true) (hfz : ∀ (H : Heap) (n : Nat), mapO (freeze H (n + 1)) cs = some cs) (hsh : shut.shutL cs = true) {n : Nat} {zs : List A} (hn : n ≤ 4611686018427387904) {b : Bool} :
    EvQ (CA (XA [.agg cs, .sl n zs] b)) 3 [.agg cs, .sl n zs] (bo true) := by
  have x8 : EvQ (CA (XA [.agg cs, .sl n zs] b)) 8 [] (bo true) := evQ_ext (by simp [CA, XA])
  have x6 : EvQ (CA (XA [.agg cs, .sl n zs] b)) 6 [.agg cs, .sl n zs] (bo b) := evQ_ext (by simp [CA, XA])
  have x7 : EvQ (CA (XA [.agg cs, .sl n zs] b)) 7 [.agg cs, .sl n zs] (bo b) := evQ_ext (by simp [CA, XA])
  refine evQ_of (m := fn3) CxB3 (by simp [CA, XA]) (by simp [fn3]) ?_
  have ht : List.take 585 cs = cs := List.take_of_length_le (by omega)
  by_cases h60 : n > 60
  · simp (config := { maxSteps := 10000000 }) (disch := omega) only [bo, fn3, m3, CA_T, h1, passK_shut (C := CA (XA [.agg cs, .sl n zs] b)) (f := 8) rfl, QK.use x8, unwK_nil, runK_ret, runK_seq, runK_reg, opsK_nil, opsK_cons, wantK_no, wantK_yes, wantK_free, wants, anyK_loud, anyK_quiet, anyK_call, freeK_quiet, isLoud, isLit, beq_self_eq_true, undef, beq_false, heapK_some, quietK_some, lentK_some, FinQ, result, resAll, resOne, calls, callee, opnd, opnds, ofV, look_cons, keepE, put, argE, quietOp, loudOp, lendL, holdR_shut, fz_v, flat, cellsA, binV, cond_true, List.getElem?_cons_zero, List.getElem?_toArray, List.length_nil, List.nil_append, List.append_nil, List.all_nil, Option.bind_some, Bool.and_true, Bool.or_true, Bool.not_true, List.isEmpty_nil, List.isEmpty_toArray, Nat.zero_add, and_self, eq_self, reduceCtorEq, ↓reduceIte, Nat.reduceEqDiff, Nat.reduceSub, dec_yes, CxT45, ty45]
  · simp (config := { maxSteps := 10000000 }) (disch := omega) only [bo, fn3, m3, CA_T, hl, h1, ht, hfz, hsh, passK_shut (C := CA (XA [.agg cs, .sl n zs] b)) (f := 8) rfl, passK_shut (C := CA (XA [.agg cs, .sl n zs] b)) (f := 7) rfl, QK.use x8, QK.use x6, QK.use x7, unwK_nil, runK_ret, runK_seq, runK_reg, opsK_nil, opsK_cons, wantK_yes, wantK_free, wants, anyK_loud, anyK_quiet, anyK_call, freeK_quiet, freeK_call, isLoud, isLit, beq_self_eq_true, heapK_some, quietK_some, lentK_some, FinQ, result, resAll, resOne, calls, callee, opnd, opnds, ofV, look_cons, keepE, put, argE, quietOp, loudOp, lendL, holdR_shut, fz_v, fz_agg, fz_sl, shut, flat, readL, partA, cellsA, binV, eqOp, nilEq, sameA, K.agg, cond_true, cond_false, List.getElem?_cons_zero, List.getElem?_toArray, List.length_nil, List.drop_zero, List.cons_append, List.nil_append, List.append_nil, List.all_cons, List.all_nil, Option.bind_some, Option.map_some, Bool.and_true, Bool.or_true, List.isEmpty_nil, List.isEmpty_toArray, Nat.zero_add, and_self, eq_self, reduceCtorEq, ↓reduceIte, Nat.reduceEqDiff, Nat.reduceSub, Nat.reduceLeDiff, dec_no, CxT4, ty4, CxT44, ty44, CxT45, ty45]
end Go.Proofs.YtnhknhniemfnjaaGreatDoor.Ev
