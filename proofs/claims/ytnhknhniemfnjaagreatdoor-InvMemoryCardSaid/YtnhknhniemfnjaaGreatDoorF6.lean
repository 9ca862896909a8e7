/- inv.Atomic: what it gives. -/
import Derived.Test.YtnhknhniemfnjaaGreatDoorF5
set_option linter.unusedSimpArgs false
set_option linter.unusedVariables false
namespace Go.Proofs.YtnhknhniemfnjaaGreatDoor.Ev
open Go Go.RowKit
set_option maxRecDepth 100000
theorem len_of {α : Type} {H : List α} {i : Nat} {a : α} (h : H[i]? = some a) : i < H.length := (List.getElem?_eq_some_iff.1 h).1
/-- An operation that has been performed. -/
structure Pf where
  core : Int
  kind : Int
  loc : Int
  a : Int
  b : Int
  old : Int
  new : Int
structure Pf.Ok (p : Pf) : Prop where
  core : 0 ≤ p.core ∧ p.core ≤ 255
  kind : 0 ≤ p.kind ∧ p.kind ≤ 255
  loc : 0 ≤ p.loc ∧ p.loc ≤ 255
  a : 0 ≤ p.a ∧ p.a ≤ 255
  b : 0 ≤ p.b ∧ p.b ≤ 255
  old : 0 ≤ p.old ∧ p.old ≤ 255
  new : 0 ≤ p.new ∧ p.new ≤ 255
def encP (p : Pf) : List A := [i8 p.core, i8 p.kind, i8 p.loc, i8 p.a, i8 p.b, i8 p.old, i8 p.new]
def encL : List Pf → List A
  | [] => []
  | p :: l => encP p ++ encL l
theorem encL_len : ∀ l : List Pf, (encL l).length = l.length * 7
  | [] => rfl
  | p :: l => by
    simp only [encL, List.length_append, encL_len l, encP, List.length_cons, List.length_nil]
    omega
theorem encL_app : ∀ a b : List Pf, encL (a ++ b) = encL a ++ encL b
  | [], _ => rfl
  | p :: a, b => by simp only [List.cons_append, encL, encL_app a b, List.append_assoc]
theorem encL_drop (pre suf : List Pf) : List.drop (pre.length * 7) (encL (pre ++ suf)) = encL suf := by
  rw [encL_app, ← encL_len, List.drop_left]
def goodK (k : Int) : Prop := k = 1 ∨ k = 2 ∨ k = 4 ∨ k = 5 ∨ k = 6
instance (k : Int) : Decidable (goodK k) := by unfold goodK; infer_instance
def goodP (g : Int) (p : Pf) (m : Int → Int) : Prop := goodK p.kind ∧ p.core < g ∧ p.loc < 6 ∧ p.old = m p.loc ∧ p.new = afterM p.kind p.a p.b p.old
instance (g : Int) (p : Pf) (m : Int → Int) : Decidable (goodP g p m) := by unfold goodP; infer_instance
def setM (m : Int → Int) (x v : Int) : Int → Int := fun y => if y = x then v else m y
def atomM (g : Int) : List Pf → (Int → Int) → Bool
  | [], _ => true
  | p :: l, m => if goodP g p m then atomM g l (setM m p.loc p.new) else false
def cells6 (m : Int → Int) : List A := [i8 (m 0), i8 (m 1), i8 (m 2), i8 (m 3), i8 (m 4), i8 (m 5)]
/-- The live blocks. -/
structure InA (cs : List A) (m : Int → Int) (H : Heap) : Prop where
  h0 : H[0]? = some (some ⟨44, cs, true⟩)
  h1 : H[1]? = some (some ⟨48, cells6 m, true⟩)
/-- What comes behind the test of the kind; and behind the round. -/
def rest6 : M := match m6_l0 with
  | .seq _ (.seq _ (.seq (.block _ (.seq _ (.seq _ r))) _)) => r
  | m => m
def inc6 : M := match m6_l0 with
  | .seq _ (.seq _ (.seq _ i)) => i
  | m => m
def kind6 : M := match m6_l0 with
  | .seq _ (.seq _ (.seq (.block _ (.seq _ (.seq a _))) _)) => a
  | m => m
theorem v6_l0 {C : Ctx} {k : List It} {st : St} {Q : Ex → St → Prop} : RunK C (.code m6_l0 :: k) st Q ↔ RunK C (.code (.seq (.reg [2, 5, 13, 14, 15] [⟨(some 16), .binOp .lss 3 (.tmp 15) (.tmp 14) 3, none⟩] 0)
    (.seq (.cond (.tmp 16) (.skip) (.exit 0))
    (.seq (.block 1 (.seq (.reg [2, 5, 13, 14, 15] [⟨(some 17), .indexAddr 45 (.tmp 13) (.tmp 15), none⟩,
       ⟨(some 18), .load 52 (.tmp 17), none⟩,
       ⟨(some 7), .alloc 52, none⟩,
       ⟨none, .store 52 (.tmp 7) (.tmp 18), none⟩] 0) (.seq kind6 rest6))) inc6))) :: k) st Q := Iff.rfl
theorem loc6 {x : Int} (h0 : 0 ≤ x) (h6 : x < 6) : x = 0 ∨ x = 1 ∨ x = 2 ∨ x = 3 ∨ x = 4 ∨ x = 5 := by omega
theorem cells_drop (m : Int → Int) {x : Int} (h0 : 0 ≤ x) (h6 : x < 6) : List.drop x.toNat (cells6 m) = i8 (m x) :: List.drop (x.toNat + 1) (cells6 m) := by
  rcases loc6 h0 h6 with rfl | rfl | rfl | rfl | rfl | rfl <;> rfl
theorem cells_set (m : Int → Int) {x : Int} (h0 : 0 ≤ x) (h6 : x < 6) (v : Int) : List.take x.toNat (cells6 m) ++ [i8 v] ++ List.drop (x.toNat + 1) (cells6 m) = cells6 (setM m x v) := by
  rcases loc6 h0 h6 with rfl | rfl | rfl | rfl | rfl | rfl <;> rfl
set_option maxHeartbeats 8000000 in
theorem round6 {cs : List A} (hl : cs.length = 585) {g : Int} (hg : cs[10]? = some (i64 g)) {KK : List It} {Q : Ex → St → Prop} {pre suf : List Pf} {p : Pf} {m : Int → Int} {H : Heap} (hI : InA cs m H) (hp : p.Ok) (hn : pre.length + (suf.length + 1) ≤ 4611686018427387904)
    (hT : p.core < g → p.loc < 6 → p.old = m p.loc → p.new = afterM p.kind p.a p.b p.old → ∀ H', InA cs (setM m p.loc p.new) H' → RunK Cx (.code (.loop m6_l0) :: KK) ⟨[(2, .ptr 0 0), (5, .ptr 1 0), (13, .sl (pre.length + (suf.length + 1)) (encL (pre ++ p :: suf))), (14, i64 ((pre.length + (suf.length + 1) : Nat) : Int)), (15, i64 ((pre.length : Int) + 1))], H'⟩ Q)
    (hF : ¬ (p.core < g ∧ p.loc < 6 ∧ p.old = m p.loc ∧ p.new = afterM p.kind p.a p.b p.old) → ∀ H', UnwK Cx .back KK ⟨[(4, bo false)], H'⟩ Q) :
    RunK Cx (.code rest6 :: .blk 1 :: .code inc6 :: .lp m6_l0 :: KK) ⟨[(2, .ptr 0 0), (5, .ptr 1 0), (7, .ptr H.length 0), (13, .sl (pre.length + (suf.length + 1)) (encL (pre ++ p :: suf))), (14, i64 ((pre.length + (suf.length + 1) : Nat) : Int)), (15, i64 pre.length)], H ++ [some ⟨52, encP p, true⟩]⟩ Q := by
  obtain ⟨hc, hk, hlo, ha, hb, ho, hnw⟩ := hp
  obtain ⟨h0, h1⟩ := hI
  have l0 := ap_low h0
  have l1 := ap_low h1
  have hd10 : List.drop 10 cs = A.v (.int .i64 g) :: List.drop 11 cs := by
    obtain ⟨h1, h2⟩ := List.getElem?_eq_some_iff.1 hg
    rw [List.drop_eq_getElem_cons h1, h2]
  by_cases c1 : p.core < g
  case neg =>
    have hF' := hF (fun h => c1 h.1)
    simp (config := { maxSteps := 10000000 }) (disch := omega) only [i64, i8, encP, rest6, inc6, m6_l0, ap_get0, l0, hd10, unwK_code, unwK_lp, unwK_ret_blk, runK_ret, runK_seq, runK_cond, condK_known, runK_reg, opsK_nil, opsK_cons, wantK_no, wantK_yes, wants, anyK_quiet, isLoud, undef, beq_false, quietK_some, calls, opnd, ofV, look_cons, keepE, put, quietOp, readL, partA, binV, K.agg, cond_true, List.getElem?_cons_zero, List.getElem?_cons_succ, List.length_cons, List.length_nil, List.drop_zero, List.cons_append, List.nil_append, Option.bind_some, Bool.not_true, Nat.zero_add, Nat.add_zero, eq_self, reduceCtorEq, ↓reduceIte, Nat.reduceEqDiff, Nat.reduceAdd, Nat.reduceSub, Nat.reduceLeDiff, Nat.reduceLT, dec_yes, wrap_i64, CxT3, ty3, CxT5, ty5, CxT31, ty31, CxT44, ty44, CxT52, ty52]
    exact hF' _
  by_cases c2 : p.loc < 6
  case neg =>
    have hF' := hF (fun h => c2 h.2.1)
    simp (config := { maxSteps := 10000000 }) (disch := omega) only [i64, i8, encP, rest6, inc6, m6_l0, ap_get0, l0, hd10, unwK_code, unwK_lp, unwK_ret_blk, runK_ret, runK_seq, runK_cond, condK_known, runK_reg, opsK_nil, opsK_cons, wantK_yes, wants, anyK_quiet, isLoud, beq_self_eq_true, quietK_some, calls, opnd, ofV, look_cons, keepE, put, quietOp, readL, partA, binV, K.agg, cond_true, cond_false, List.getElem?_cons_zero, List.getElem?_cons_succ, List.length_cons, List.length_nil, List.drop_zero, List.drop_succ_cons, List.cons_append, List.nil_append, Option.bind_some, Nat.zero_add, Nat.add_zero, eq_self, reduceCtorEq, ↓reduceIte, Nat.reduceEqDiff, Nat.reduceAdd, Nat.reduceLeDiff, Nat.reduceLT, dec_yes, dec_no, wrap_i64, CxT3, ty3, CxT5, ty5, CxT31, ty31, CxT44, ty44, CxT50, ty50, CxT52, ty52]
    exact hF' _
  have hdl := cells_drop m hlo.1 c2
  have hst := cells_set m hlo.1 c2 p.new
  have hcl : (cells6 m).length = 6 := rfl
  by_cases c3 : p.old = m p.loc
  case neg =>
    have hF' := hF (fun h => c3 h.2.2.1)
    simp (config := { maxSteps := 10000000 }) (disch := omega) only [i64, i8, encP, rest6, inc6, m6_l0, ap_get0, l0, l1, hd10, hdl, Nat.mul_one, Nat.zero_add, bne_yes c3, unwK_code, unwK_lp, unwK_ret_blk, runK_skip, runK_ret, runK_seq, runK_cond, condK_known, runK_reg, opsK_nil, opsK_cons, wantK_no, wantK_yes, wantK_free, wants, anyK_quiet, freeK_quiet, isLoud, isLit, beq_self_eq_true, undef, beq_false, quietK_some, calls, opnd, ofV, look_cons, keepE, put, quietOp, readL, partA, binV, K.agg, cond_true, cond_false, List.getElem?_cons_zero, List.getElem?_cons_succ, List.length_cons, List.length_nil, List.drop_zero, List.drop_succ_cons, List.cons_append, List.nil_append, Option.bind_some, Bool.not_true, Nat.zero_add, Nat.add_zero, eq_self, reduceCtorEq, ↓reduceIte, Nat.reduceEqDiff, Nat.reduceAdd, Nat.reduceSub, Nat.reduceLeDiff, Nat.reduceLT, ite_yes, dec_no, wrap_i64, CxT3, ty3, CxT5, ty5, CxT31, ty31, CxT44, ty44, CxT48, ty48, CxT50, ty50, CxT52, ty52]
    exact hF' _
  by_cases c4 : p.new = afterM p.kind p.a p.b p.old
  case neg =>
    have hF' := hF (fun h => c4 h.2.2.2)
    have hae := after_ev p.kind p.loc p.a p.b p.old
    simp (config := { maxSteps := 10000000 }) (disch := omega) only [i64, i8, encP, rest6, inc6, m6_l0, ap_get0, l0, l1, hd10, hdl, Nat.mul_one, Nat.zero_add, QK.use hae, bne_no c3, bne_yes c4, unwK_code, unwK_lp, unwK_ret_blk, runK_skip, runK_ret, runK_seq, runK_cond, condK_known, runK_reg, opsK_nil, opsK_cons, wantK_yes, wantK_free, wants, anyK_quiet, freeK_quiet, freeK_call, isLoud, isLit, beq_self_eq_true, quietK_some, lentK_some, calls, callee, opnd, opnds, ofV, look_cons, keepE, put, quietOp, lendL, fz_v, fz_agg, mapO_nil, mapO_cons, shut, shut.shutL, flat, readL, partA, binV, K.agg, cond_true, cond_false, List.getElem?_cons_zero, List.getElem?_cons_succ, List.length_cons, List.length_nil, List.drop_zero, List.drop_succ_cons, List.take_succ_cons, List.take_zero, List.cons_append, List.nil_append, List.append_nil, List.all_cons, List.all_nil, Option.bind_some, Option.map_some, Bool.and_true, Bool.or_true, List.isEmpty_nil, List.isEmpty_toArray, Nat.zero_add, Nat.add_zero, true_and, eq_self, reduceCtorEq, ↓reduceIte, Nat.reduceEqDiff, Nat.reduceAdd, Nat.reduceSub, Nat.reduceLeDiff, Nat.reduceLT, ite_yes, dec_no, wrap_i64, CxT3, ty3, CxT5, ty5, CxT31, ty31, CxT44, ty44, CxT48, ty48, CxT50, ty50, CxT52, ty52]
    exact hF' _
  have hae := after_ev p.kind p.loc p.a p.b p.old
  have hT' := hT c1 c2 c3 c4
  simp (config := { maxSteps := 10000000 }) (disch := omega) only [i64, i8, encP, rest6, inc6, m6_l0, ap_get0, l0, l1, hd10, hdl, hcl, hst, Nat.mul_one, Nat.zero_add, QK.use hae, bne_no c3, bne_no c4, runK_blk, runK_lp, runK_skip, runK_seq, runK_cond, condK_known, runK_reg, opsK_nil, opsK_cons, wantK_yes, wantK_free, wants, anyK_loud, anyK_quiet, freeK_quiet, freeK_call, isLoud, isLit, beq_self_eq_true, undef, heapK_some, quietK_some, lentK_some, calls, callee, opnd, opnds, ofV, look_cons, keepE, put, quietOp, loudOp, lendL, fz_v, fz_agg, mapO_nil, mapO_cons, shut, shut.shutL, flat, readL, partA, cellsA, one, ones, binV, K.agg, cond_false, List.getElem?_cons_zero, List.getElem?_cons_succ, List.length_cons, List.length_nil, List.drop_zero, List.drop_succ_cons, List.take_succ_cons, List.take_zero, List.cons_append, List.nil_append, List.append_nil, List.all_cons, List.all_nil, Option.bind_some, Option.map_some, Bool.and_true, Bool.or_true, List.isEmpty_nil, List.isEmpty_toArray, Nat.zero_add, Nat.add_zero, and_true, true_and, eq_self, reduceCtorEq, ↓reduceIte, Nat.reduceEqDiff, Nat.reduceAdd, Nat.reduceSub, Nat.reduceLeDiff, Nat.reduceLT, ite_yes, dec_no, wrap_i64, CxT3, ty3, CxT5, ty5, CxT31, ty31, CxT44, ty44, CxT48, ty48, CxT50, ty50, CxT52, ty52]
  rw [loop_norm (l := [2, 5, 13, 14, 15]) rfl]
  simp (config := { maxSteps := 10000000 }) (disch := omega) only [look_cons, keepE, eq_self, ↓reduceIte, Nat.reduceEqDiff]
  refine hT' _ ⟨?_, ?_⟩
  · exact set_other (l0 _) (by decide)
  · exact set_same (l1 _) _
set_option maxHeartbeats 8000000 in
theorem loop6 {cs : List A} (hl : cs.length = 585) {g : Int} (hg : cs[10]? = some (i64 g)) {KK : List It} {Q : Ex → St → Prop} :
    ∀ (suf pre : List Pf) (m : Int → Int) (H : Heap), InA cs m H → (∀ p ∈ suf, p.Ok) → (pre ++ suf).length ≤ 4611686018427387904 →
      (atomM g suf m = true → ∀ H' n, UnwK Cx (.out 0) KK ⟨[(16, bo false), (2, .ptr 0 0), (5, .ptr 1 0), (13, .sl (pre ++ suf).length (encL (pre ++ suf))), (14, i64 (pre ++ suf).length), (15, i64 n)], H'⟩ Q) →
      (atomM g suf m = false → ∀ H', UnwK Cx .back KK ⟨[(4, bo false)], H'⟩ Q) →
      RunK Cx (.code (.loop m6_l0) :: KK) ⟨[(2, .ptr 0 0), (5, .ptr 1 0), (13, .sl (pre ++ suf).length (encL (pre ++ suf))), (14, i64 (pre ++ suf).length), (15, i64 pre.length)], H⟩ Q := by
  intro suf
  induction suf with
  | nil =>
    intro pre m H hI _ hn hT _
    rw [runK_loop]
    simp (config := { maxSteps := 10000000 }) (disch := omega) only [i64, u6_l0, List.append_nil, Int.lt_irrefl, decide_false, unwK_code, unwK_lp, runK_exit, runK_seq, runK_cond, condK_known, runK_reg, opsK_nil, opsK_cons, wantK_yes, wants, anyK_quiet, isLoud, quietK_some, calls, opnd, look_cons, keepE, put, quietOp, binV, cond_false, List.append_nil, eq_self, ↓reduceIte, Nat.reduceEqDiff, decide_false]
    have := hT rfl H pre.length
    simpa only [i64, bo, List.append_nil] using this
  | cons p suf ih =>
    intro pre m H hI hok hn hT hF
    have hp := hok p (.head _)
    obtain ⟨hc, hk, hlo, ha, hb, ho, hnw⟩ := hp
    have hlen : (pre ++ p :: suf).length = pre.length + (suf.length + 1) := by simp
    have hd : List.drop (pre.length * 7) (encL (pre ++ p :: suf)) = encP p ++ encL suf := encL_drop pre (p :: suf)
    have hll : (encL (pre ++ p :: suf)).length = (pre.length + (suf.length + 1)) * 7 := by rw [encL_len, hlen]
    obtain ⟨h0, h1⟩ := hI
    have l0 := ap_low h0
    have l1 := ap_low h1
    rw [runK_loop]
    simp (config := { maxSteps := 10000000 }) (disch := omega) only [i64, i8, encP, v6_l0, hlen, hd, ap_get0, ap_set0, encL_len, runK_skip, runK_seq, runK_block, runK_cond, condK_known, runK_reg, opsK_nil, opsK_cons, wantK_yes, wants, anyK_loud, anyK_quiet, isLoud, undef, heapK_some, quietK_some, calls, opnd, look_cons, keepE, put, quietOp, loudOp, readL, partA, cellsA, one, ones, binV, K.agg, cond_true, List.length_cons, List.length_nil, List.drop_zero, List.drop_succ_cons, List.drop_nil, List.take_succ_cons, List.take_zero, List.cons_append, List.nil_append, List.append_nil, List.map_cons, List.map_nil, Option.bind_some, Bool.and_true, Nat.zero_add, and_self, eq_self, ↓reduceIte, Nat.reduceEqDiff, Nat.reduceAdd, Nat.reduceLeDiff, Int.toNat_natCast, ite_yes, dec_yes, CxT45, ty45, CxT52, ty52]
    by_cases k : goodK p.kind
    case neg =>
      have hz : atomM g (p :: suf) m = false := by
        unfold atomM
        rw [if_neg fun h => k h.1]
      have hF' := hF hz
      have k1 : ¬ p.kind = 1 := fun h => k (.inl h)
      have k2 : ¬ p.kind = 2 := fun h => k (.inr (.inl h))
      have k4 : ¬ p.kind = 4 := fun h => k (.inr (.inr (.inl h)))
      have k5 : ¬ p.kind = 5 := fun h => k (.inr (.inr (.inr (.inl h))))
      have k6 : ¬ p.kind = 6 := fun h => k (.inr (.inr (.inr (.inr h))))
      simp (config := { maxSteps := 10000000 }) (disch := omega) only [kind6, m6_l0, ap_get0, beq_no k1, beq_no k2, beq_no k4, beq_no k5, beq_no k6, unwK_code, unwK_lp, unwK_ret_blk, runK_ret, runK_seq, runK_block, runK_cond, condK_known, runK_reg, opsK_nil, opsK_cons, wantK_yes, wants, anyK_quiet, isLoud, quietK_some, calls, opnd, ofV, look_cons, keepE, put, quietOp, readL, partA, binV, K.agg, cond_false, List.getElem?_cons_zero, List.getElem?_cons_succ, List.length_cons, List.length_nil, List.drop_zero, List.drop_succ_cons, Option.bind_some, Nat.zero_add, Nat.add_zero, eq_self, reduceCtorEq, ↓reduceIte, Nat.reduceEqDiff, Nat.reduceAdd, Nat.reduceLeDiff, Nat.reduceLT, CxT5, ty5, CxT50, ty50, CxT52, ty52]
      exact hF' _
    have stageB : RunK Cx (.code rest6 :: .blk 1 :: .code inc6 :: .lp m6_l0 :: KK) ⟨[(2, .ptr 0 0), (5, .ptr 1 0), (7, .ptr H.length 0), (13, .sl (pre.length + (suf.length + 1)) (encL (pre ++ p :: suf))), (14, i64 ((pre.length + (suf.length + 1) : Nat) : Int)), (15, i64 pre.length)], H ++ [some ⟨52, encP p, true⟩]⟩ Q := by
      refine round6 hl hg ⟨h0, h1⟩ (hok p (.head _)) (by omega) (fun e1 e2 e3 e4 H' hI' => ?_) (fun hne H' => ?_)
      · have hz : atomM g (p :: suf) m = atomM g suf (setM m p.loc p.new) := by
          conv => lhs; unfold atomM
          rw [if_pos ⟨k, e1, e2, e3, e4⟩]
        have happ : pre ++ p :: suf = (pre ++ [p]) ++ suf := by simp
        have := ih (pre ++ [p]) (setM m p.loc p.new) H' hI' (fun q hq => hok q (.tail _ hq)) (by rw [← happ]; omega) (fun hz' H'' n => by rw [← happ]; exact hT (hz.trans hz') H'' n) (fun hz' H'' => hF (hz.trans hz') H'')
        rw [← happ, hlen] at this
        simpa only [List.length_append, List.length_cons, List.length_nil, Nat.zero_add, Int.natCast_add, Int.natCast_one] using this
      · refine hF ?_ H'
        unfold atomM
        rw [if_neg fun h => hne h.2]
    rcases k with k | k | k | k | k
    all_goals
      simp (config := { maxSteps := 10000000 }) (disch := omega) only [kind6, m6_l0, ap_get0, k, runK_blk, runK_skip, runK_seq, runK_block, runK_cond, condK_known, runK_reg, opsK_nil, opsK_cons, wantK_yes, wants, anyK_quiet, isLoud, beq_self_eq_true, quietK_some, calls, opnd, ofV, look_cons, keepE, put, quietOp, readL, partA, binV, K.agg, cond_true, cond_false, List.getElem?_cons_zero, List.getElem?_cons_succ, List.length_cons, List.length_nil, List.drop_zero, List.drop_succ_cons, Option.bind_some, Nat.zero_add, Nat.add_zero, eq_self, reduceCtorEq, ↓reduceIte, Nat.reduceEqDiff, Nat.reduceAdd, Nat.reduceLeDiff, Nat.reduceLT, beq_no, CxT5, ty5, CxT50, ty50, CxT52, ty52]
      rw [head_norm (l := [2, 5, 7, 13, 14, 15]) _ _ rfl]
      simp (config := { maxSteps := 10000000 }) (disch := omega) only [look_cons, keepE, eq_self, ↓reduceIte, Nat.reduceEqDiff]
      simp only [encP, i8, k] at stageB
      exact stageB
/-- What a location holds at the start. -/
def initM (l : List Int) : Int → Int := fun x => l.getD x.toNat 0
theorem init_cells (l : List Int) : (l.map i8).take (min l.length 6) ++ ([i8 0, i8 0, i8 0, i8 0, i8 0, i8 0] : List A).drop (min l.length 6) = cells6 (initM l) := by
  rcases l with _ | ⟨a, _ | ⟨b, _ | ⟨c, _ | ⟨d, _ | ⟨e, _ | ⟨f, l⟩⟩⟩⟩⟩⟩
  · rfl
  · rfl
  · rfl
  · rfl
  · rfl
  · rfl
  · have h : min (a :: b :: c :: d :: e :: f :: l).length 6 = 6 := by simp
    rw [h]
    rfl
theorem ones_i8 : ∀ l : List Int, ones (l.map i8) = true
  | [] => rfl
  | a :: l => by simp only [List.map_cons, ones, one, ones_i8 l, Bool.and_self]
set_option maxHeartbeats 8000000 in
theorem atomic_ev {cs : List A} (hl : cs.length = 585) (h1 : ones cs = true) {g : Int} (hg : cs[10]? = some (i64 g)) {ini : List Int} (hi : cs[2]? = some (.sl ini.length (ini.map i8))) {l : List Pf} (hok : ∀ p ∈ l, p.Ok) (hn : l.length ≤ 4611686018427387904) :
    EvQ Cx 6 [.agg cs, .sl l.length (encL l)] (bo (atomM g l (initM ini))) := by
  refine evQ_of CxB6 rfl (by simp [fn6]) ?_
  have hd2 : List.drop 2 cs = A.sl ini.length (ini.map i8) :: List.drop 3 cs := by
    obtain ⟨k1, k2⟩ := List.getElem?_eq_some_iff.1 hi
    rw [List.drop_eq_getElem_cons k1, k2]
  have hb : Nat.ble 6 maxLen = true := by decide
  have ht1 : ones (List.take (min ini.length 6) (ini.map i8)) = true := by
    rw [← List.map_take]
    exact ones_i8 _
  have hic := init_cells ini
  simp (config := { maxSteps := 10000000 }) (disch := omega) only [bo, fn6, m6, h1, hd2, hb, ht1, List.length_map, Nat.mul_one, runK_seq, runK_block, runK_reg, Nat.beq_refl, opsK_nil, opsK_cons, wantK_yes, wantK_free, wants, anyK_loud, anyK_quiet, freeK_quiet, isLoud, isLit, heapK_some, quietK_some, calls, opnd, opnds, opndO, ofV, look_cons, keepE, put, argE, quietOp, loudOp, loudOp.srcL, readL, partA, cellsA, bnd, bnds, K.agg, List.getElem?_cons_zero, List.getElem?_cons_succ, List.getElem?_toArray, List.length_cons, List.length_nil, List.take_zero, List.set_cons_zero, List.set_cons_succ, List.cons_append, List.nil_append, List.map_cons, List.map_nil, Option.bind_some, Bool.and_true, Nat.zero_add, Nat.add_zero, and_true, true_and, eq_self, reduceCtorEq, ↓reduceIte, Nat.reduceEqDiff, Nat.reduceAdd, Nat.reduceSub, Nat.reduceLeDiff, Nat.reduceLT, ite_yes, CxT5, ty5, CxT23, ty23, CxT29, ty29, CxT44, ty44, CxT45, ty45, CxT48, ty48]
  rw [loop_norm (l := [2, 5, 13, 14, 15]) rfl]
  simp (config := { maxSteps := 10000000 }) (disch := omega) only [look_cons, keepE, eq_self, ↓reduceIte, Nat.reduceEqDiff]
  refine loop6 hl hg l [] (initM ini) _ ⟨rfl, ?_⟩ hok hn (fun hz H' n => ?_) (fun hz H' => ?_)
  · rw [← hic]
    rfl
  · simp (config := { maxSteps := 10000000 }) (disch := omega) only [i64, bo, hz, unwK_nil, unwK_blk, runK_ret, runK_seq, runK_reg, opsK_nil, opsK_cons, wantK_yes, wants, anyK_quiet, isLoud, quietK_some, FinQ, result, resAll, resOne, calls, opnd, ofV, look_cons, keepE, put, quietOp, holdR_shut, fz_v, List.nil_append, Option.bind_some, eq_self, ↓reduceIte]
  · simp (config := { maxSteps := 10000000 }) (disch := omega) only [bo, hz, unwK_nil, unwK_code, unwK_ret_blk, FinQ, result, resAll, resOne, look_cons, holdR_shut, fz_v, Option.bind_some, eq_self, ↓reduceIte]
end Go.Proofs.YtnhknhniemfnjaaGreatDoor.Ev
