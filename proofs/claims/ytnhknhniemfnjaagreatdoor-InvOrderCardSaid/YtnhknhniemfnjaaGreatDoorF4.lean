/- spec's reader of words: the next word. -/
import Derived.Test.YtnhknhniemfnjaaGreatDoorF3
set_option linter.unusedSimpArgs false
set_option linter.unusedVariables false
namespace Go.Proofs.YtnhknhniemfnjaaGreatDoor.Ev
open Go Go.RowKit
set_option maxRecDepth 100000
/-- What the next word is, and what is left. -/
def nextO : List A → Heap → Option (A × Heap)
  | [.ptr b off], H => match H[b]? with
    | some (some k) => match k.cs[off]? with
      | some (.sl n cs) => match n, cs with
        | 0, [] => some (.v (.string ⟨#[]⟩), H)
        | n + 1, c :: cs => bif Nat.beq cs.length n then some (c, H.set b (some ⟨k.e, k.cs.take off ++ [.sl n cs] ++ k.cs.drop (off + 1), k.whole⟩)) else none
        | _, _ => none
      | _ => none
    | _ => none
  | _, _ => none
theorem callK_evO {C : Ctx} {f : FuncId} {l : List A} {H H' : Heap} {x : A} (h : CallK C f l H fun y K => y = x ∧ K = H') : EvO C f l H x H' := by
  obtain ⟨y, K, h1, rfl, rfl⟩ := h
  exact h1
theorem next_ev {l : List A} {H H' : Heap} {x : A} (h : nextO l H = some (x, H')) : EvO Cx 145 l H x H' := by
  unfold nextO at h
  split at h
  · rename_i b off
    split at h
    · rename_i k hb
      split at h
      · rename_i n cs hcs
        obtain ⟨e, cs0, w⟩ := k
        simp only at hcs h
        obtain ⟨hlt, hget⟩ := List.getElem?_eq_some_iff.1 hcs
        have hd : List.drop off cs0 = .sl n cs :: List.drop (off + 1) cs0 := by
          rw [← hget]
          exact List.drop_eq_getElem_cons hlt
        split at h
        · simp only [Option.some.injEq, Prod.mk.injEq] at h
          obtain ⟨rfl, rfl⟩ := h
          refine callK_evO ?_
          rw [callK_in CxB145 CxP145]
          refine ⟨by simp [fn145], ?_⟩
          simp (config := { maxSteps := 10000000 }) (disch := omega) only [fn145, m145, hb, hd, endK_back, unwK_nil, unwK_code, runK_ret, runK_seq, runK_cond, condK_known, runK_reg, opsK_nil, opsK_cons, wantK_yes, wants, anyK_quiet, isLoud, quietK_some, result, resAll, resOne, calls, opnd, opnds, ofV, look_cons, keepE, put, argE, quietOp, readL, partA, binV, K.agg, cond_true, List.getElem?_cons_zero, List.getElem?_toArray, List.length_cons, Option.bind_some, Option.some.injEq, Nat.zero_add, Nat.add_zero, and_true, eq_self, reduceCtorEq, ↓reduceIte, Nat.reduceLeDiff, Nat.reduceLT, beq_yes, CxT22, ty22, CxT209, ty209]
          refine ⟨_, rfl, ?_⟩
          simp
        · rename_i n c cs
          cases hl : Nat.beq cs.length n with
          | false => simp [hl] at h
          | true =>
            simp only [hl, cond_true, Option.some.injEq, Prod.mk.injEq] at h
            obtain ⟨rfl, rfl⟩ := h
            obtain rfl := Nat.eq_of_beq_eq_true hl
            refine callK_evO ?_
            rw [callK_in CxB145 CxP145]
            refine ⟨by simp [fn145], ?_⟩
            simp (config := { maxSteps := 10000000 }) (disch := omega) only [fn145, m145, hb, hd, endK_back, unwK_nil, runK_skip, runK_ret, runK_seq, runK_cond, condK_known, runK_reg, opsK_nil, opsK_cons, wantK_yes, wants, anyK_loud, anyK_quiet, isLoud, undef, heapK_some, quietK_some, result, resAll, resOne, calls, opnd, opnds, opndO, ofV, look_cons, keepE, put, argE, quietOp, loudOp, readL, partA, cellsA, one, ones, binV, bnd, bnds, K.agg, cond_false, List.getElem?_cons_zero, List.getElem?_toArray, List.length_cons, List.length_nil, List.drop_zero, List.drop_succ_cons, Option.bind_some, Option.map_some, Bool.and_true, Option.some.injEq, Nat.zero_add, Nat.add_zero, and_true, true_and, eq_self, reduceCtorEq, ↓reduceIte, Nat.reduceEqDiff, Nat.reduceMul, Nat.reduceLeDiff, Nat.reduceLT, Int.reduceLE, Int.toNat_zero, Int.toNat_one, ite_yes, beq_no, CxT9, ty9, CxT22, ty22, CxT209, ty209]
            refine ⟨_, rfl, rfl, ?_⟩
            simp
        · cases h
      · cases h
    · cases h
  · cases h
def xOut (f : FuncId) : Option (List A → Heap → Option (A × Heap)) := bif Nat.beq f 145 then some nextO else none
theorem xOut_ok (f : FuncId) (g : List A → Heap → Option (A × Heap)) (l : List A) (H : Heap) (x : A) (H' : Heap) (h : xOut f = some g) (hg : g l H = some (x, H')) : FnOut Cx.T Tryz.prog f l H x H' := by
  unfold xOut at h
  cases hb : Nat.beq f 145 with
  | false => simp [hb] at h
  | true =>
    obtain rfl := Nat.eq_of_beq_eq_true hb
    simp only [hb, cond_true, Option.some.injEq] at h
    subst h
    obtain ⟨N, hN⟩ := next_ev hg
    exact (call_sound CxOk N).2.fn 145 l H x H' hN
end Go.Proofs.YtnhknhniemfnjaaGreatDoor.Ev
