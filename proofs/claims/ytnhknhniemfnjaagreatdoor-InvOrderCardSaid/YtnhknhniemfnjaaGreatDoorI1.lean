/- InvOrder: its first loop, which makes a sequence consistent. -/
import Derived.Test.YtnhknhniemfnjaaGreatDoorF6
set_option linter.unusedSimpArgs false
set_option linter.unusedVariables false
namespace Go.Proofs.YtnhknhniemfnjaaGreatDoor.Ev
open Go Go.RowKit
set_option maxRecDepth 100000
/-- The kind that the law makes of a kind's remainder by five. -/
def kindO (k : Int) : Int := if k % 5 = 0 then 1 else if k % 5 = 1 then 2 else if k % 5 = 2 then 4 else if k % 5 = 3 then 5 else 6
theorem kindO_good (k : Int) : goodK (kindO k) := by
  unfold kindO goodK
  split
  · simp
  · split
    · simp
    · split
      · simp
      · split <;> simp
/-- An operation made consistent with what the locations hold. -/
def nrmP (g : Int) (m : Int → Int) (p : Pf) : Pf := ⟨p.core % min g 200, kindO p.kind, p.loc % 6, p.a, p.b, m (p.loc % 6), afterM (kindO p.kind) p.a p.b (m (p.loc % 6))⟩
def opsM (g : Int) : List Pf → (Int → Int) → List Pf
  | [], _ => []
  | p :: l, m => nrmP g m p :: opsM g l (setM m (p.loc % 6) (nrmP g m p).new)
/-- Contents fit a byte. -/
def ByM (m : Int → Int) : Prop := ∀ x, 0 ≤ m x ∧ m x ≤ 255
theorem byM_set {m : Int → Int} (h : ByM m) (x : Int) {v : Int} (h0 : 0 ≤ v) (h1 : v ≤ 255) : ByM (setM m x v) := fun y => by
  unfold setM
  split
  · exact ⟨h0, h1⟩
  · exact h y
theorem nrmP_ok {g : Int} (hg : 1 ≤ g) {m : Int → Int} (hm : ByM m) {p : Pf} (hp : p.Ok) : (nrmP g m p).Ok := by
  obtain ⟨c, k, l, a, b, o, n⟩ := hp
  have hk := kindO_good p.kind
  have ha := afterM_le (kind := kindO p.kind) a.1 a.2 b.1 b.2 (hm (p.loc % 6)).1 (hm (p.loc % 6)).2
  have h0 : min g 200 ≠ 0 := by omega
  have h1 := Int.emod_nonneg p.core h0
  have h2 := Int.emod_lt_of_pos p.core (show 0 < min g 200 by omega)
  refine ⟨⟨h1, ?_⟩, ?_, ?_, a, b, hm _, ha⟩
  · show p.core % min g 200 ≤ 255
    omega
  · show 0 ≤ kindO p.kind ∧ kindO p.kind ≤ 255
    unfold goodK at hk
    omega
  · show 0 ≤ p.loc % 6 ∧ p.loc % 6 ≤ 255
    omega
theorem nrmP_good {g : Int} (hg : 1 ≤ g) (m : Int → Int) (p : Pf) : goodP g (nrmP g m p) m := by
  refine ⟨kindO_good _, ?_, ?_, rfl, rfl⟩
  · have h2 := Int.emod_lt_of_pos p.core (show 0 < min g 200 by omega)
    show p.core % min g 200 < g
    omega
  · show p.loc % 6 < 6
    omega
theorem nrmP_by {g : Int} {m : Int → Int} (hm : ByM m) {p : Pf} (hp : p.Ok) : 0 ≤ (nrmP g m p).new ∧ (nrmP g m p).new ≤ 255 :=
  afterM_le (kind := kindO p.kind) hp.a.1 hp.a.2 hp.b.1 hp.b.2 (hm (p.loc % 6)).1 (hm (p.loc % 6)).2
theorem opsM_ok {g : Int} (hg : 1 ≤ g) : ∀ (l : List Pf) (m : Int → Int), ByM m → (∀ p ∈ l, p.Ok) → ∀ p ∈ opsM g l m, p.Ok
  | [], _, _, _, _, h => by cases h
  | p :: l, m, hm, hl, q, h => by
    simp only [opsM, List.mem_cons] at h
    rcases h with rfl | h
    · exact nrmP_ok hg hm (hl p (.head _))
    · exact opsM_ok hg l _ (byM_set hm _ (nrmP_by hm (hl p (.head _))).1 (nrmP_by hm (hl p (.head _))).2) (fun x hx => hl x (.tail _ hx)) q h
theorem opsM_len (g : Int) : ∀ (l : List Pf) (m : Int → Int), (opsM g l m).length = l.length
  | [], _ => rfl
  | p :: l, m => by simp only [opsM, List.length_cons, opsM_len g l]
theorem opsM_atom {g : Int} (hg : 1 ≤ g) : ∀ (l : List Pf) (m : Int → Int), atomM g (opsM g l m) m = true
  | [], _ => rfl
  | p :: l, m => by
    simp only [opsM, atomM]
    rw [if_pos (nrmP_good hg m p)]
    exact opsM_atom hg l _
theorem memA_by {g : Int} : ∀ (l : List Pf) (m : Int → Int), ByM m → (∀ p ∈ l, p.Ok) → ByM (memA m (opsM g l m))
  | [], _, hm, _ => hm
  | p :: l, m, hm, hl => memA_by l _ (byM_set hm _ (nrmP_by hm (hl p (.head _))).1 (nrmP_by hm (hl p (.head _))).2) fun x hx => hl x (.tail _ hx)
theorem atomM_app (g : Int) : ∀ (a b : List Pf) (m : Int → Int), atomM g (a ++ b) m = (atomM g a m && atomM g b (memA m a))
  | [], _, _ => by simp [atomM, memA]
  | p :: a, b, m => by
    simp only [List.cons_append, atomM, memA]
    split
    · exact atomM_app g a b _
    · rfl
theorem atomM_take {g : Int} {l : List Pf} {m : Int → Int} (h : atomM g l m = true) (k : Nat) : atomM g (l.take k) m = true := by
  have := atomM_app g (l.take k) (l.drop k) m
  rw [List.take_append_drop, h] at this
  simp only [Bool.true_eq, Bool.and_eq_true] at this
  exact this.1
theorem atomM_read {g : Int} (hg : 1 ≤ g) {l : List Pf} {m : Int → Int} (h : atomM g l m = true) {i : Int} (hi : i < 6) : atomM g (l ++ [⟨0, 1, i, 0, 0, memA m l i, memA m l i⟩]) m = true := by
  rw [atomM_app, h, Bool.true_and]
  simp only [atomM]
  rw [if_pos]
  exact ⟨.inl rfl, by show (0 : Int) < g; omega, hi, rfl, rfl⟩
theorem atomM_wrong {g : Int} {l : List Pf} {m : Int → Int} {i o n : Int} (ho : o ≠ memA m l i) : atomM g (l ++ [⟨0, 1, i, 0, 0, o, n⟩]) m = false := by
  rw [atomM_app]
  simp only [atomM]
  rw [if_neg fun h => ho h.2.2.2.1, Bool.and_false]
theorem setM_comm (m : Int → Int) {x y : Int} (h : x ≠ y) (v w : Int) : setM (setM m x v) y w = setM (setM m y w) x v := by
  funext z
  unfold setM
  by_cases h1 : z = y
  · subst h1
    rw [if_pos rfl, if_neg fun e => h e.symm, if_pos rfl]
  · rw [if_neg h1, if_neg h1]
theorem atomM_swap {g : Int} (a b : List Pf) {p q : Pf} (h : p.loc ≠ q.loc) (m : Int → Int) : atomM g (a ++ p :: q :: b) m = atomM g (a ++ q :: p :: b) m := by
  rw [atomM_app, atomM_app]
  congr 1
  simp only [atomM]
  generalize memA m a = m
  have e1 : goodP g q (setM m p.loc p.new) ↔ goodP g q m := by
    unfold goodP setM
    rw [if_neg fun e => h e.symm]
  have e2 : goodP g p (setM m q.loc q.new) ↔ goodP g p m := by
    unfold goodP setM
    rw [if_neg h]
  rw [setM_comm m h p.new q.new]
  by_cases hp : goodP g p m <;> by_cases hq : goodP g q m <;> simp [hp, hq, e1, e2]
/-- The slice of the operations made so far. -/
def SlO (H : Heap) (v : A) (L : List Pf) : Prop := (L = [] ∧ v = .v (.slice none 0 0)) ∨ (L ≠ [] ∧ ∃ b, 2 ≤ b ∧ v = .ref b 0 L.length 7 ∧ H[b]? = some (some ⟨52, encL L, false⟩))
theorem ap_getk' {α : Type} (H l : List α) (k : Nat) : (H ++ l)[H.length + k]? = l[k]? := by
  rw [List.getElem?_append_right (by omega), Nat.add_sub_cancel_left]
theorem as_getk {α : Type} (H l : List α) (i : Nat) (z : α) (k : Nat) : (H.set i z ++ l)[H.length + k]? = l[k]? := by
  have := ap_getk' (H.set i z) l k
  rwa [List.length_set] at this
theorem as2_getk {α : Type} (H l : List α) (i j : Nat) (z y : α) (k : Nat) : ((H.set i z).set j y ++ l)[H.length + k]? = l[k]? := by
  have := as_getk (H.set i z) l j y k
  rwa [List.length_set] at this
/-- What comes behind the kind; and behind the round. -/
def rest4 : M := match m4_l0 with
  | .seq _ (.seq _ (.seq (.block _ (.seq _ (.seq _ (.seq _ (.seq _ r))))) _)) => r
  | m => m
def inc4 : M := match m4_l0 with
  | .seq _ (.seq _ (.seq _ i)) => i
  | m => m
set_option maxHeartbeats 8000000 in
/-- From the kind on. -/
theorem tail4 {X : FuncId → List A → Option A} (hae : ∀ k x a b o : Int, EvQ (CA X) 9 [.agg [i8 k, i8 x, i8 a, i8 b], i8 o] (i8 (afterM k a b o))) {cs : List A} {KK : List It} {Q : Ex → St → Prop} {t : Int} {v : A} {pre suf L : List Pf} {p : Pf} {m : Int → Int} {H : Heap} (hI : InA cs m H) (hv : SlO H v L) {c k x a b o n : Int} (hx0 : 0 ≤ x) (hx6 : x < 6) (hn : pre.length + (suf.length + 1) ≤ 60) (hL : L.length ≤ 60)
    (hT : ∀ H' v', InA cs (setM m x (afterM k a b (m x))) H' → SlO H' v' (L ++ [⟨c, k, x, a, b, m x, afterM k a b (m x)⟩]) → RunK (CA X) (.code (.loop m4_l0) :: KK) ⟨[(2, i8 t), (3, .ptr 0 0), (7, .ptr 1 0), (8, v'), (31, .sl (pre.length + (suf.length + 1)) (encL (pre ++ p :: suf))), (32, i64 ((pre.length + (suf.length + 1) : Nat) : Int)), (33, i64 ((pre.length : Int) + 1))], H'⟩ Q) :
    RunK (CA X) (.code rest4 :: .blk 1 :: .code inc4 :: .lp m4_l0 :: KK) ⟨[(2, i8 t), (3, .ptr 0 0), (7, .ptr 1 0), (8, v), (10, .ptr H.length 0), (31, .sl (pre.length + (suf.length + 1)) (encL (pre ++ p :: suf))), (32, i64 ((pre.length + (suf.length + 1) : Nat) : Int)), (33, i64 pre.length)], H ++ [some ⟨52, encP ⟨c, k, x, a, b, o, n⟩, true⟩]⟩ Q := by
  obtain ⟨h0, h1⟩ := hI
  have l0 := ap_low h0
  have l1 := ap_low h1
  have hdl := cells_drop m hx0 hx6
  have hst := cells_set m hx0 hx6 (afterM k a b (m x))
  have hcl : (cells6 m).length = 6 := rfl
  have s1 := ap_slow h1
  have hml : 1 ≤ maxLen := by decide
  have hH := len_of h1
  rcases hv with ⟨rfl, rfl⟩ | ⟨hne, bb, hb2, rfl, hb⟩
  · simp (config := { maxSteps := 10000000 }) (disch := omega) only [i64, i8, bo, encP, rest4, inc4, m4_l0, ap_get0, ap_set0, l0, l1, s1, as_get0, ap_getk', as_getk, hml, List.length_set, List.append_assoc, hdl, hst, hcl, Nat.mul_one, Nat.zero_add, passK_shut (C := CA X) (f := 9) rfl, QK.use (hae k x a b (m x)), List.length_append, CA_T, runK_nil, runK_blk, runK_lp, unwK_nil, unwK_blk, unwK_code, unwK_lp, unwK_ret_blk, runK_skip, runK_exit, runK_ret, runK_seq, runK_block, runK_cond, condK_known, runK_reg, runK_ops, runK_again, againAll, againOp, eqA, eqL, eqV, Nat.beq_refl, opsK_nil, opsK_cons, wantK_no, wantK_yes, wantK_free, wants, anyK_loud, anyK_quiet, anyK_call, freeK_lit, freeK_quiet, freeK_call, isLoud, isLit, litQ, beq_self_eq_true, undef, beq_true, beq_false, Bool.false_beq, Bool.true_beq, heapK_some, quietK_some, lentK_some, retK_go, retK_back, FinQ, result, resAll, resOne, calls, callee, opnd, opnds, opndO, ofV, look_cons, look_nil, keepE, put, argE, quietOp, loudOp, loudOp.srcL, quietOp.minA, lendL, holdR_shut, holdR_pass, holdR_norm, nrm, nrmL, fz_v, fz_agg, fz_tup, fz_clo, fz_sl, fz_fp, fz_mf, fz_mp, fz_ptr, fz_ref, mapO_nil, mapO_cons, shut, shut.shutL, flat, flat.flatL, readL, partA, cellsA, one, ones, binV, eqOp, nilEq, sameA, eqT, eqFs, eqN, fillA, partsA, placesOf, litCells, zeros, bnd, bnds, K.agg, cond_true, cond_false, List.getElem?_cons_zero, List.getElem?_cons_succ, List.getElem?_nil, List.getElem?_toArray, List.length_cons, List.length_nil, List.drop_zero, List.drop_succ_cons, List.drop_nil, List.take_succ_cons, List.take_zero, List.take_nil, List.set_cons_zero, List.set_cons_succ, List.cons_append, List.nil_append, List.append_nil, List.map_cons, List.map_nil, List.all_cons, List.all_nil, Option.bind_some, Option.bind_none, Option.map_some, Option.map_none, Bool.and_true, Bool.true_and, Bool.and_false, Bool.false_and, Bool.or_true, Bool.true_or, Bool.or_false, Bool.false_or, Bool.not_true, Bool.not_false, Array.toList, List.isEmpty_nil, List.isEmpty_cons, List.isEmpty_toArray, Option.some.injEq, A.v.injEq, A.agg.injEq, Value.int.injEq, Value.bool.injEq, Nat.zero_add, Nat.add_zero, and_self, and_true, true_and, eq_self, reduceCtorEq, ↓reduceIte, Nat.reduceEqDiff, Nat.reduceAdd, Nat.reduceMul, Nat.reduceSub, Nat.reduceLeDiff, Nat.reduceLT, Nat.reducePow, Nat.reduceDiv, Nat.reduceMod, Int.reduceDiv, Int.reduceMod, Int.reduceTDiv, Int.reduceTMod, Int.reduceAdd, Int.reduceMul, Int.reduceSub, Int.reduceNeg, Int.reduceToNat, Int.reduceLE, Int.reduceLT, Int.reduceEq, Int.reduceNe, Int.reduceGT, Int.reduceGE, Int.toNat_natCast, Int.toNat_zero, Int.toNat_one, decide_true, decide_false, ite_yes, ite_no, dec_yes, dec_no, beq_yes, beq_no, bne_yes, bne_no, wrap_u8, wrap_u16, wrap_u64, wrap_i64, tdiv_pos, tmod_pos, CxT3, ty3, CxT4, ty4, CxT5, ty5, CxT9, ty9, CxT21, ty21, CxT22, ty22, CxT23, ty23, CxT24, ty24, CxT25, ty25, CxT27, ty27, CxT29, ty29, CxT31, ty31, CxT33, ty33, CxT34, ty34, CxT36, ty36, CxT37, ty37, CxT38, ty38, CxT39, ty39, CxT40, ty40, CxT42, ty42, CxT44, ty44, CxT45, ty45, CxT47, ty47, CxT48, ty48, CxT50, ty50, CxT52, ty52, CxT53, ty53, CxT56, ty56, CxT57, ty57, CxT58, ty58, CxT59, ty59, CxT61, ty61, CxT62, ty62, CxT63, ty63, CxT65, ty65, CxT66, ty66, CxT67, ty67, CxT69, ty69, CxT77, ty77, CxT81, ty81, CxT83, ty83, CxT84, ty84, CxT85, ty85, CxT87, ty87, CxT88, ty88, CxT90, ty90, CxT95, ty95, CxT97, ty97, CxT98, ty98, CxT100, ty100, CxT103, ty103, CxT106, ty106, CxT108, ty108, CxT111, ty111, CxT120, ty120, CxT122, ty122, CxT124, ty124, CxT126, ty126, CxT127, ty127, CxT140, ty140, CxT142, ty142, CxT148, ty148, CxT150, ty150, CxT152, ty152, CxT153, ty153, CxT155, ty155, CxT164, ty164, CxT168, ty168, CxT170, ty170, CxT177, ty177, CxT178, ty178, CxT181, ty181, CxT194, ty194, CxT200, ty200, CxT203, ty203, CxT204, ty204, CxT206, ty206, CxT207, ty207, CxT209, ty209, CxT211, ty211, CxT216, ty216, CxT217, ty217, CxT225, ty225, CxT230, ty230, CxT235, ty235, CxT237, ty237, CxT239, ty239, CxT249, ty249, CxT252, ty252, CxT254, ty254, CxT257, ty257, CxT258, ty258, CxT265, ty265, CxT266, ty266, CxT270, ty270, CxT273, ty273, CxT275, ty275, CxT278, ty278, CxT280, ty280, CxT282, ty282, CxT283, ty283, CxT286, ty286, CxT287, ty287, CxT288, ty288, CxT290, ty290, CxT292, ty292, CxT297, ty297, CxT299, ty299, CxT304, ty304, CxT318, ty318, CxT328, ty328, CxT345, ty345, CxG2, CxG6, CxG0, CxG7, CxG1, CxG3]
    rw [loop_norm (l := [2, 3, 7, 8, 31, 32, 33]) rfl]
    simp (config := { maxSteps := 10000000 }) (disch := omega) only [runK_nil, runK_blk, runK_lp, unwK_nil, unwK_blk, unwK_code, unwK_lp, unwK_ret_blk, runK_skip, runK_exit, runK_ret, runK_seq, runK_block, runK_cond, condK_known, runK_reg, runK_ops, runK_again, againAll, againOp, eqA, eqL, eqV, Nat.beq_refl, opsK_nil, opsK_cons, wantK_no, wantK_yes, wantK_free, wants, anyK_loud, anyK_quiet, anyK_call, freeK_lit, freeK_quiet, freeK_call, isLoud, isLit, litQ, beq_self_eq_true, undef, beq_true, beq_false, Bool.false_beq, Bool.true_beq, heapK_some, quietK_some, lentK_some, retK_go, retK_back, FinQ, result, resAll, resOne, calls, callee, opnd, opnds, opndO, ofV, look_cons, look_nil, keepE, put, argE, quietOp, loudOp, loudOp.srcL, quietOp.minA, lendL, holdR_shut, holdR_pass, holdR_norm, nrm, nrmL, fz_v, fz_agg, fz_tup, fz_clo, fz_sl, fz_fp, fz_mf, fz_mp, fz_ptr, fz_ref, mapO_nil, mapO_cons, shut, shut.shutL, flat, flat.flatL, readL, partA, cellsA, one, ones, binV, eqOp, nilEq, sameA, eqT, eqFs, eqN, fillA, partsA, placesOf, litCells, zeros, bnd, bnds, K.agg, cond_true, cond_false, List.getElem?_cons_zero, List.getElem?_cons_succ, List.getElem?_nil, List.getElem?_toArray, List.length_cons, List.length_nil, List.drop_zero, List.drop_succ_cons, List.drop_nil, List.take_succ_cons, List.take_zero, List.take_nil, List.set_cons_zero, List.set_cons_succ, List.cons_append, List.nil_append, List.append_nil, List.map_cons, List.map_nil, List.all_cons, List.all_nil, Option.bind_some, Option.bind_none, Option.map_some, Option.map_none, Bool.and_true, Bool.true_and, Bool.and_false, Bool.false_and, Bool.or_true, Bool.true_or, Bool.or_false, Bool.false_or, Bool.not_true, Bool.not_false, Array.toList, List.isEmpty_nil, List.isEmpty_cons, List.isEmpty_toArray, Option.some.injEq, A.v.injEq, A.agg.injEq, Value.int.injEq, Value.bool.injEq, Nat.zero_add, Nat.add_zero, and_self, and_true, true_and, eq_self, reduceCtorEq, ↓reduceIte, Nat.reduceEqDiff, Nat.reduceAdd, Nat.reduceMul, Nat.reduceSub, Nat.reduceLeDiff, Nat.reduceLT, Nat.reducePow, Nat.reduceDiv, Nat.reduceMod, Int.reduceDiv, Int.reduceMod, Int.reduceTDiv, Int.reduceTMod, Int.reduceAdd, Int.reduceMul, Int.reduceSub, Int.reduceNeg, Int.reduceToNat, Int.reduceLE, Int.reduceLT, Int.reduceEq, Int.reduceNe, Int.reduceGT, Int.reduceGE, Int.toNat_natCast, Int.toNat_zero, Int.toNat_one, decide_true, decide_false, ite_yes, ite_no, dec_yes, dec_no, beq_yes, beq_no, bne_yes, bne_no, wrap_u8, wrap_u16, wrap_u64, wrap_i64, tdiv_pos, tmod_pos]
    refine hT _ _ ⟨ap_low (set_other h0 (by decide)) _, ap_low (set_same h1 _) _⟩ (.inr ⟨by simp, H.length + 2, by omega, rfl, ?_⟩)
    rw [as_getk]
    rfl
  · have lb : ∀ y l, (List.set H 1 y ++ l)[bb]? = some (some ⟨52, encL L, false⟩) := fun y l => ap_low (set_other hb (by omega)) l
    have sb : ∀ y l z, (List.set H 1 y ++ l).set bb z = (List.set H 1 y).set bb z ++ l := fun y l z => ap_slow (set_other hb (by omega)) l z
    have hm2 : L.length + 1 ≤ maxLen := by
      have : 61 ≤ maxLen := by decide
      omega
    have hel := encL_len L
    have htl : List.take (L.length * 7) (encL L) = encL L := List.take_of_length_le (by omega)
    simp (config := { maxSteps := 10000000 }) (disch := omega) only [i64, i8, bo, encP, rest4, inc4, m4_l0, ap_get0, ap_set0, l0, l1, s1, as_get0, ap_getk', as_getk, hml, List.length_set, List.append_assoc, hdl, hst, hcl, Nat.mul_one, Nat.zero_add, passK_shut (C := CA X) (f := 9) rfl, QK.use (hae k x a b (m x)), List.length_append, lb, sb, hm2, hel, htl, Nat.le_refl, CA_T, runK_nil, runK_blk, runK_lp, unwK_nil, unwK_blk, unwK_code, unwK_lp, unwK_ret_blk, runK_skip, runK_exit, runK_ret, runK_seq, runK_block, runK_cond, condK_known, runK_reg, runK_ops, runK_again, againAll, againOp, eqA, eqL, eqV, Nat.beq_refl, opsK_nil, opsK_cons, wantK_no, wantK_yes, wantK_free, wants, anyK_loud, anyK_quiet, anyK_call, freeK_lit, freeK_quiet, freeK_call, isLoud, isLit, litQ, beq_self_eq_true, undef, beq_true, beq_false, Bool.false_beq, Bool.true_beq, heapK_some, quietK_some, lentK_some, retK_go, retK_back, FinQ, result, resAll, resOne, calls, callee, opnd, opnds, opndO, ofV, look_cons, look_nil, keepE, put, argE, quietOp, loudOp, loudOp.srcL, quietOp.minA, lendL, holdR_shut, holdR_pass, holdR_norm, nrm, nrmL, fz_v, fz_agg, fz_tup, fz_clo, fz_sl, fz_fp, fz_mf, fz_mp, fz_ptr, fz_ref, mapO_nil, mapO_cons, shut, shut.shutL, flat, flat.flatL, readL, partA, cellsA, one, ones, binV, eqOp, nilEq, sameA, eqT, eqFs, eqN, fillA, partsA, placesOf, litCells, zeros, bnd, bnds, K.agg, cond_true, cond_false, List.getElem?_cons_zero, List.getElem?_cons_succ, List.getElem?_nil, List.getElem?_toArray, List.length_cons, List.length_nil, List.drop_zero, List.drop_succ_cons, List.drop_nil, List.take_succ_cons, List.take_zero, List.take_nil, List.set_cons_zero, List.set_cons_succ, List.cons_append, List.nil_append, List.append_nil, List.map_cons, List.map_nil, List.all_cons, List.all_nil, Option.bind_some, Option.bind_none, Option.map_some, Option.map_none, Bool.and_true, Bool.true_and, Bool.and_false, Bool.false_and, Bool.or_true, Bool.true_or, Bool.or_false, Bool.false_or, Bool.not_true, Bool.not_false, Array.toList, List.isEmpty_nil, List.isEmpty_cons, List.isEmpty_toArray, Option.some.injEq, A.v.injEq, A.agg.injEq, Value.int.injEq, Value.bool.injEq, Nat.zero_add, Nat.add_zero, and_self, and_true, true_and, eq_self, reduceCtorEq, ↓reduceIte, Nat.reduceEqDiff, Nat.reduceAdd, Nat.reduceMul, Nat.reduceSub, Nat.reduceLeDiff, Nat.reduceLT, Nat.reducePow, Nat.reduceDiv, Nat.reduceMod, Int.reduceDiv, Int.reduceMod, Int.reduceTDiv, Int.reduceTMod, Int.reduceAdd, Int.reduceMul, Int.reduceSub, Int.reduceNeg, Int.reduceToNat, Int.reduceLE, Int.reduceLT, Int.reduceEq, Int.reduceNe, Int.reduceGT, Int.reduceGE, Int.toNat_natCast, Int.toNat_zero, Int.toNat_one, decide_true, decide_false, ite_yes, ite_no, dec_yes, dec_no, beq_yes, beq_no, bne_yes, bne_no, wrap_u8, wrap_u16, wrap_u64, wrap_i64, tdiv_pos, tmod_pos, CxT3, ty3, CxT4, ty4, CxT5, ty5, CxT9, ty9, CxT21, ty21, CxT22, ty22, CxT23, ty23, CxT24, ty24, CxT25, ty25, CxT27, ty27, CxT29, ty29, CxT31, ty31, CxT33, ty33, CxT34, ty34, CxT36, ty36, CxT37, ty37, CxT38, ty38, CxT39, ty39, CxT40, ty40, CxT42, ty42, CxT44, ty44, CxT45, ty45, CxT47, ty47, CxT48, ty48, CxT50, ty50, CxT52, ty52, CxT53, ty53, CxT56, ty56, CxT57, ty57, CxT58, ty58, CxT59, ty59, CxT61, ty61, CxT62, ty62, CxT63, ty63, CxT65, ty65, CxT66, ty66, CxT67, ty67, CxT69, ty69, CxT77, ty77, CxT81, ty81, CxT83, ty83, CxT84, ty84, CxT85, ty85, CxT87, ty87, CxT88, ty88, CxT90, ty90, CxT95, ty95, CxT97, ty97, CxT98, ty98, CxT100, ty100, CxT103, ty103, CxT106, ty106, CxT108, ty108, CxT111, ty111, CxT120, ty120, CxT122, ty122, CxT124, ty124, CxT126, ty126, CxT127, ty127, CxT140, ty140, CxT142, ty142, CxT148, ty148, CxT150, ty150, CxT152, ty152, CxT153, ty153, CxT155, ty155, CxT164, ty164, CxT168, ty168, CxT170, ty170, CxT177, ty177, CxT178, ty178, CxT181, ty181, CxT194, ty194, CxT200, ty200, CxT203, ty203, CxT204, ty204, CxT206, ty206, CxT207, ty207, CxT209, ty209, CxT211, ty211, CxT216, ty216, CxT217, ty217, CxT225, ty225, CxT230, ty230, CxT235, ty235, CxT237, ty237, CxT239, ty239, CxT249, ty249, CxT252, ty252, CxT254, ty254, CxT257, ty257, CxT258, ty258, CxT265, ty265, CxT266, ty266, CxT270, ty270, CxT273, ty273, CxT275, ty275, CxT278, ty278, CxT280, ty280, CxT282, ty282, CxT283, ty283, CxT286, ty286, CxT287, ty287, CxT288, ty288, CxT290, ty290, CxT292, ty292, CxT297, ty297, CxT299, ty299, CxT304, ty304, CxT318, ty318, CxT328, ty328, CxT345, ty345, CxG2, CxG6, CxG0, CxG7, CxG1, CxG3]
    rw [loop_norm (l := [2, 3, 7, 8, 31, 32, 33]) rfl]
    simp (config := { maxSteps := 10000000 }) (disch := omega) only [runK_nil, runK_blk, runK_lp, unwK_nil, unwK_blk, unwK_code, unwK_lp, unwK_ret_blk, runK_skip, runK_exit, runK_ret, runK_seq, runK_block, runK_cond, condK_known, runK_reg, runK_ops, runK_again, againAll, againOp, eqA, eqL, eqV, Nat.beq_refl, opsK_nil, opsK_cons, wantK_no, wantK_yes, wantK_free, wants, anyK_loud, anyK_quiet, anyK_call, freeK_lit, freeK_quiet, freeK_call, isLoud, isLit, litQ, beq_self_eq_true, undef, beq_true, beq_false, Bool.false_beq, Bool.true_beq, heapK_some, quietK_some, lentK_some, retK_go, retK_back, FinQ, result, resAll, resOne, calls, callee, opnd, opnds, opndO, ofV, look_cons, look_nil, keepE, put, argE, quietOp, loudOp, loudOp.srcL, quietOp.minA, lendL, holdR_shut, holdR_pass, holdR_norm, nrm, nrmL, fz_v, fz_agg, fz_tup, fz_clo, fz_sl, fz_fp, fz_mf, fz_mp, fz_ptr, fz_ref, mapO_nil, mapO_cons, shut, shut.shutL, flat, flat.flatL, readL, partA, cellsA, one, ones, binV, eqOp, nilEq, sameA, eqT, eqFs, eqN, fillA, partsA, placesOf, litCells, zeros, bnd, bnds, K.agg, cond_true, cond_false, List.getElem?_cons_zero, List.getElem?_cons_succ, List.getElem?_nil, List.getElem?_toArray, List.length_cons, List.length_nil, List.drop_zero, List.drop_succ_cons, List.drop_nil, List.take_succ_cons, List.take_zero, List.take_nil, List.set_cons_zero, List.set_cons_succ, List.cons_append, List.nil_append, List.append_nil, List.map_cons, List.map_nil, List.all_cons, List.all_nil, Option.bind_some, Option.bind_none, Option.map_some, Option.map_none, Bool.and_true, Bool.true_and, Bool.and_false, Bool.false_and, Bool.or_true, Bool.true_or, Bool.or_false, Bool.false_or, Bool.not_true, Bool.not_false, Array.toList, List.isEmpty_nil, List.isEmpty_cons, List.isEmpty_toArray, Option.some.injEq, A.v.injEq, A.agg.injEq, Value.int.injEq, Value.bool.injEq, Nat.zero_add, Nat.add_zero, and_self, and_true, true_and, eq_self, reduceCtorEq, ↓reduceIte, Nat.reduceEqDiff, Nat.reduceAdd, Nat.reduceMul, Nat.reduceSub, Nat.reduceLeDiff, Nat.reduceLT, Nat.reducePow, Nat.reduceDiv, Nat.reduceMod, Int.reduceDiv, Int.reduceMod, Int.reduceTDiv, Int.reduceTMod, Int.reduceAdd, Int.reduceMul, Int.reduceSub, Int.reduceNeg, Int.reduceToNat, Int.reduceLE, Int.reduceLT, Int.reduceEq, Int.reduceNe, Int.reduceGT, Int.reduceGE, Int.toNat_natCast, Int.toNat_zero, Int.toNat_one, decide_true, decide_false, ite_yes, ite_no, dec_yes, dec_no, beq_yes, beq_no, bne_yes, bne_no, wrap_u8, wrap_u16, wrap_u64, wrap_i64, tdiv_pos, tmod_pos]
    have hbH := len_of hb
    have := hT (((H.set 1 (some ⟨48, cells6 (setM m x (afterM k a b (m x))), true⟩)).set bb none) ++ [some ⟨52, encP ⟨c, k, x, a, b, m x, afterM k a b (m x)⟩, true⟩, some ⟨52, encP ⟨c, k, x, a, b, m x, afterM k a b (m x)⟩, true⟩, some ⟨52, encL L ++ encP ⟨c, k, x, a, b, m x, afterM k a b (m x)⟩, false⟩]) (.ref (H.length + 2) 0 (L.length + 1) 7) ⟨ap_low (set_other (set_other h0 (by decide)) (by omega)) _, ap_low (set_other (set_same h1 _) (by omega)) _⟩ (.inr ⟨by simp, H.length + 2, by omega, by simp, ?_⟩)
    · exact this
    · rw [as2_getk, encL_app]
      simp [encL]
theorem v4_l0 {C : Ctx} {k : List It} {st : St} {Q : Ex → St → Prop} : RunK C (.code m4_l0 :: k) st Q ↔ RunK C (.code (.seq (.reg [2, 3, 7, 8, 31, 32, 33] [⟨(some 34), .binOp .lss 3 (.tmp 33) (.tmp 32) 3, none⟩] 0)
    (.seq (.cond (.tmp 34) (.skip)
      (.exit 0))
    (.seq (.block 1 (.seq (.reg [2, 3, 7, 8, 31, 32, 33] [⟨(some 35), .indexAddr 45 (.tmp 31) (.tmp 33), none⟩,
       ⟨(some 36), .load 52 (.tmp 35), none⟩,
       ⟨(some 10), .alloc 52, none⟩,
       ⟨none, .store 52 (.tmp 10) (.tmp 36), none⟩] 0)
     (.seq (.reg [2, 3, 7, 8, 10, 31, 32, 33] [⟨(some 37), .fieldAddr 52 (.tmp 10) 0, none⟩,
       ⟨(some 38), .load 5 (.tmp 37), none⟩,
       ⟨(some 39), .convert 5 3 (.tmp 38), none⟩,
       ⟨(some 40), .fieldAddr 44 (.tmp 3) 1, none⟩,
       ⟨(some 41), .fieldAddr 31 (.tmp 40) 0, none⟩,
       ⟨(some 42), .load 3 (.tmp 41), none⟩,
       ⟨(some 43), .call ⟨.builtin .min, #[(.tmp 42), (.const (.int .i64 200))], #[3, 3]⟩, none⟩,
       ⟨(some 44), .binOp .rem 3 (.tmp 39) (.tmp 43) 3, none⟩,
       ⟨(some 45), .convert 3 5 (.tmp 44), none⟩,
       ⟨(some 46), .fieldAddr 52 (.tmp 10) 0, none⟩,
       ⟨none, .store 5 (.tmp 46) (.tmp 45), none⟩] 0)
     (.seq (.reg [2, 3, 7, 8, 10, 31, 32, 33] [⟨(some 47), .fieldAddr 52 (.tmp 10) 1, none⟩,
       ⟨(some 48), .fieldAddr 50 (.tmp 47) 1, none⟩,
       ⟨(some 49), .load 5 (.tmp 48), none⟩,
       ⟨(some 50), .binOp .rem 5 (.tmp 49) (.const (.int .u8 6)) 5, none⟩,
       ⟨(some 51), .fieldAddr 52 (.tmp 10) 1, none⟩,
       ⟨(some 52), .fieldAddr 50 (.tmp 51) 1, none⟩,
       ⟨none, .store 5 (.tmp 52) (.tmp 50), none⟩] 0)
     (.seq (.reg [2, 3, 7, 8, 10, 31, 32, 33] [⟨(some 53), .build 53 #[(0, (.const (.int .u8 1))), (1, (.const (.int .u8 2))), (2, (.const (.int .u8 4))), (3, (.const (.int .u8 5))), (4, (.const (.int .u8 6)))], none⟩,
       ⟨(some 54), .fieldAddr 52 (.tmp 10) 1, none⟩,
       ⟨(some 55), .fieldAddr 50 (.tmp 54) 0, none⟩,
       ⟨(some 56), .load 5 (.tmp 55), none⟩,
       ⟨(some 57), .binOp .rem 5 (.tmp 56) (.const (.int .u8 5)) 5, none⟩,
       ⟨(some 58), .index 53 (.tmp 53) (.tmp 57), none⟩,
       ⟨(some 59), .fieldAddr 52 (.tmp 10) 1, none⟩,
       ⟨(some 60), .fieldAddr 50 (.tmp 59) 0, none⟩,
       ⟨none, .store 5 (.tmp 60) (.tmp 58), none⟩] 0) rest4))))) inc4))) :: k) st Q := Iff.rfl
theorem kind_cases (k : Int) : (k % 5 = 0 ∧ kindO k = 1) ∨ (k % 5 = 1 ∧ kindO k = 2) ∨ (k % 5 = 2 ∧ kindO k = 4) ∨ (k % 5 = 3 ∧ kindO k = 5) ∨ (k % 5 = 4 ∧ kindO k = 6) := by
  have h0 : 0 ≤ k % 5 := Int.emod_nonneg k (by decide)
  have h1 : k % 5 < 5 := Int.emod_lt_of_pos k (by decide)
  have h : k % 5 = 0 ∨ k % 5 = 1 ∨ k % 5 = 2 ∨ k % 5 = 3 ∨ k % 5 = 4 := by omega
  rcases h with h | h | h | h | h <;> simp [kindO, h]
set_option maxHeartbeats 8000000 in
theorem loop4 {X : FuncId → List A → Option A} (hae : ∀ k x a b o : Int, EvQ (CA X) 9 [.agg [i8 k, i8 x, i8 a, i8 b], i8 o] (i8 (afterM k a b o))) {cs : List A} (hl : cs.length = 585) {g : Int} (hg : cs[10]? = some (i64 g)) (hg1 : 1 ≤ g) {t : Int} {KK : List It} {Q : Ex → St → Prop} :
    ∀ (suf pre L : List Pf) (m : Int → Int) (H : Heap) (v : A), InA cs m H → SlO H v L → L.length = pre.length → (∀ p ∈ suf, p.Ok) → ByM m → (pre ++ suf).length ≤ 60 →
      (∀ H' v' n, InA cs (memA m (opsM g suf m)) H' → SlO H' v' (L ++ opsM g suf m) → UnwK (CA X) (.out 0) KK ⟨[(34, bo false), (2, i8 t), (3, .ptr 0 0), (7, .ptr 1 0), (8, v'), (31, .sl (pre ++ suf).length (encL (pre ++ suf))), (32, i64 (pre ++ suf).length), (33, i64 n)], H'⟩ Q) →
      RunK (CA X) (.code (.loop m4_l0) :: KK) ⟨[(2, i8 t), (3, .ptr 0 0), (7, .ptr 1 0), (8, v), (31, .sl (pre ++ suf).length (encL (pre ++ suf))), (32, i64 (pre ++ suf).length), (33, i64 pre.length)], H⟩ Q := by
  intro suf
  induction suf with
  | nil =>
    intro pre L m H v hI hv hL _ _ hn hT
    rw [runK_loop]
    simp (config := { maxSteps := 10000000 }) (disch := omega) only [i64, i8, bo, u4_l0, List.append_nil, Int.lt_irrefl, decide_false, CA_T, runK_nil, runK_blk, runK_lp, unwK_nil, unwK_blk, unwK_code, unwK_lp, unwK_ret_blk, runK_skip, runK_exit, runK_ret, runK_seq, runK_block, runK_cond, condK_known, runK_reg, runK_ops, runK_again, againAll, againOp, eqA, eqL, eqV, Nat.beq_refl, opsK_nil, opsK_cons, wantK_no, wantK_yes, wantK_free, wants, anyK_loud, anyK_quiet, anyK_call, freeK_lit, freeK_quiet, freeK_call, isLoud, isLit, litQ, beq_self_eq_true, undef, beq_true, beq_false, Bool.false_beq, Bool.true_beq, heapK_some, quietK_some, lentK_some, retK_go, retK_back, FinQ, result, resAll, resOne, calls, callee, opnd, opnds, opndO, ofV, look_cons, look_nil, keepE, put, argE, quietOp, loudOp, loudOp.srcL, quietOp.minA, lendL, holdR_shut, holdR_pass, holdR_norm, nrm, nrmL, fz_v, fz_agg, fz_tup, fz_clo, fz_sl, fz_fp, fz_mf, fz_mp, fz_ptr, fz_ref, mapO_nil, mapO_cons, shut, shut.shutL, flat, flat.flatL, readL, partA, cellsA, one, ones, binV, eqOp, nilEq, sameA, eqT, eqFs, eqN, fillA, partsA, placesOf, litCells, zeros, bnd, bnds, K.agg, cond_true, cond_false, List.getElem?_cons_zero, List.getElem?_cons_succ, List.getElem?_nil, List.getElem?_toArray, List.length_cons, List.length_nil, List.drop_zero, List.drop_succ_cons, List.drop_nil, List.take_succ_cons, List.take_zero, List.take_nil, List.set_cons_zero, List.set_cons_succ, List.cons_append, List.nil_append, List.append_nil, List.map_cons, List.map_nil, List.all_cons, List.all_nil, Option.bind_some, Option.bind_none, Option.map_some, Option.map_none, Bool.and_true, Bool.true_and, Bool.and_false, Bool.false_and, Bool.or_true, Bool.true_or, Bool.or_false, Bool.false_or, Bool.not_true, Bool.not_false, Array.toList, List.isEmpty_nil, List.isEmpty_cons, List.isEmpty_toArray, Option.some.injEq, A.v.injEq, A.agg.injEq, Value.int.injEq, Value.bool.injEq, Nat.zero_add, Nat.add_zero, and_self, and_true, true_and, eq_self, reduceCtorEq, ↓reduceIte, Nat.reduceEqDiff, Nat.reduceAdd, Nat.reduceMul, Nat.reduceSub, Nat.reduceLeDiff, Nat.reduceLT, Nat.reducePow, Nat.reduceDiv, Nat.reduceMod, Int.reduceDiv, Int.reduceMod, Int.reduceTDiv, Int.reduceTMod, Int.reduceAdd, Int.reduceMul, Int.reduceSub, Int.reduceNeg, Int.reduceToNat, Int.reduceLE, Int.reduceLT, Int.reduceEq, Int.reduceNe, Int.reduceGT, Int.reduceGE, Int.toNat_natCast, Int.toNat_zero, Int.toNat_one, decide_true, decide_false, ite_yes, ite_no, dec_yes, dec_no, beq_yes, beq_no, bne_yes, bne_no, wrap_u8, wrap_u16, wrap_u64, wrap_i64, tdiv_pos, tmod_pos, CxT3, ty3, CxT4, ty4, CxT5, ty5, CxT9, ty9, CxT21, ty21, CxT22, ty22, CxT23, ty23, CxT24, ty24, CxT25, ty25, CxT27, ty27, CxT29, ty29, CxT31, ty31, CxT33, ty33, CxT34, ty34, CxT36, ty36, CxT37, ty37, CxT38, ty38, CxT39, ty39, CxT40, ty40, CxT42, ty42, CxT44, ty44, CxT45, ty45, CxT47, ty47, CxT48, ty48, CxT50, ty50, CxT52, ty52, CxT53, ty53, CxT56, ty56, CxT57, ty57, CxT58, ty58, CxT59, ty59, CxT61, ty61, CxT62, ty62, CxT63, ty63, CxT65, ty65, CxT66, ty66, CxT67, ty67, CxT69, ty69, CxT77, ty77, CxT81, ty81, CxT83, ty83, CxT84, ty84, CxT85, ty85, CxT87, ty87, CxT88, ty88, CxT90, ty90, CxT95, ty95, CxT97, ty97, CxT98, ty98, CxT100, ty100, CxT103, ty103, CxT106, ty106, CxT108, ty108, CxT111, ty111, CxT120, ty120, CxT122, ty122, CxT124, ty124, CxT126, ty126, CxT127, ty127, CxT140, ty140, CxT142, ty142, CxT148, ty148, CxT150, ty150, CxT152, ty152, CxT153, ty153, CxT155, ty155, CxT164, ty164, CxT168, ty168, CxT170, ty170, CxT177, ty177, CxT178, ty178, CxT181, ty181, CxT194, ty194, CxT200, ty200, CxT203, ty203, CxT204, ty204, CxT206, ty206, CxT207, ty207, CxT209, ty209, CxT211, ty211, CxT216, ty216, CxT217, ty217, CxT225, ty225, CxT230, ty230, CxT235, ty235, CxT237, ty237, CxT239, ty239, CxT249, ty249, CxT252, ty252, CxT254, ty254, CxT257, ty257, CxT258, ty258, CxT265, ty265, CxT266, ty266, CxT270, ty270, CxT273, ty273, CxT275, ty275, CxT278, ty278, CxT280, ty280, CxT282, ty282, CxT283, ty283, CxT286, ty286, CxT287, ty287, CxT288, ty288, CxT290, ty290, CxT292, ty292, CxT297, ty297, CxT299, ty299, CxT304, ty304, CxT318, ty318, CxT328, ty328, CxT345, ty345, CxG2, CxG6, CxG0, CxG7, CxG1, CxG3]
    have := hT H v pre.length hI (by simpa only [opsM, List.append_nil] using hv)
    simpa only [i64, i8, bo, List.append_nil] using this
  | cons p suf ih =>
    intro pre L m H v hI hv hL hok hm hn hT
    have hp := hok p (.head _)
    have hpo := hp
    obtain ⟨hc, hk, hlo, ha, hb, ho, hnw⟩ := hpo
    have hlen : (pre ++ p :: suf).length = pre.length + (suf.length + 1) := by simp
    have hd : List.drop (pre.length * 7) (encL (pre ++ p :: suf)) = encP p ++ encL suf := encL_drop pre (p :: suf)
    have hll : (encL (pre ++ p :: suf)).length = (pre.length + (suf.length + 1)) * 7 := by rw [encL_len, hlen]
    have h0 := hI.h0
    have h1 := hI.h1
    have l0 := ap_low h0
    have l1 := ap_low h1
    have hd10 : List.drop 10 cs = A.v (.int .i64 g) :: List.drop 11 cs := by
      obtain ⟨h1, h2⟩ := List.getElem?_eq_some_iff.1 hg
      rw [List.drop_eq_getElem_cons h1, h2]
    have hmin : (if 200 < g then (200 : Int) else g) = min g 200 := by omega
    have hc0 : min g 200 ≠ 0 := by omega
    have hc1 := Int.emod_nonneg p.core hc0
    have hc2 := Int.emod_lt_of_pos p.core (show 0 < min g 200 by omega)
    have hct : p.core.tmod (min g 200) = p.core % min g 200 := tmod_pos hc.1
    have hcw : IntKind.u8.wrap (p.core % min g 200) = p.core % min g 200 := wrap_u8 hc1 (by omega)
    have hx0 := Int.emod_nonneg p.loc (show (6 : Int) ≠ 0 by decide)
    have hx6 := Int.emod_lt_of_pos p.loc (show (0 : Int) < 6 by decide)
    have hnb := nrmP_by (g := g) hm hp
    have stageB : ∀ o n, RunK (CA X) (.code rest4 :: .blk 1 :: .code inc4 :: .lp m4_l0 :: KK) ⟨[(2, i8 t), (3, .ptr 0 0), (7, .ptr 1 0), (8, v), (10, .ptr H.length 0), (31, .sl (pre.length + (suf.length + 1)) (encL (pre ++ p :: suf))), (32, i64 ((pre.length + (suf.length + 1) : Nat) : Int)), (33, i64 pre.length)], H ++ [some ⟨52, encP ⟨p.core % min g 200, kindO p.kind, p.loc % 6, p.a, p.b, o, n⟩, true⟩]⟩ Q := fun o n => by
      refine tail4 hae hI hv hx0 hx6 (by omega) (by simp only [List.length_append, List.length_cons] at hn; omega) fun H' v' hI' hv' => ?_
      have happ : pre ++ p :: suf = (pre ++ [p]) ++ suf := by simp
      have := ih (pre ++ [p]) (L ++ [nrmP g m p]) (setM m (p.loc % 6) (nrmP g m p).new) H' v' hI' hv' (by simp [hL]) (fun q hq => hok q (.tail _ hq)) (byM_set hm _ hnb.1 hnb.2) (by rw [← happ]; exact hn) (fun H'' v'' n hI'' hv'' => by
        rw [← happ]
        refine hT H'' v'' n hI'' ?_
        simpa only [opsM, List.append_assoc, List.singleton_append] using hv'')
      rw [← happ, hlen] at this
      simpa only [List.length_append, List.length_cons, List.length_nil, Nat.zero_add, Int.natCast_add, Int.natCast_one] using this
    rw [runK_loop]
    rcases kind_cases p.kind with ⟨k, e⟩ | ⟨k, e⟩ | ⟨k, e⟩ | ⟨k, e⟩ | ⟨k, e⟩
    all_goals
      simp (config := { maxSteps := 10000000 }) (disch := omega) only [i64, i8, bo, encP, cells6, v4_l0, hlen, hd, hll, ap_get0, ap_set0, l0, l1, hd10, hmin, hc0, hct, hcw, k, List.length_append, encL_len, hl, CA_T, runK_nil, runK_blk, runK_lp, unwK_nil, unwK_blk, unwK_code, unwK_lp, unwK_ret_blk, runK_skip, runK_exit, runK_ret, runK_seq, runK_block, runK_cond, condK_known, runK_reg, runK_ops, runK_again, againAll, againOp, eqA, eqL, eqV, Nat.beq_refl, opsK_nil, opsK_cons, wantK_no, wantK_yes, wantK_free, wants, anyK_loud, anyK_quiet, anyK_call, freeK_lit, freeK_quiet, freeK_call, isLoud, isLit, litQ, beq_self_eq_true, undef, beq_true, beq_false, Bool.false_beq, Bool.true_beq, heapK_some, quietK_some, lentK_some, retK_go, retK_back, FinQ, result, resAll, resOne, calls, callee, opnd, opnds, opndO, ofV, look_cons, look_nil, keepE, put, argE, quietOp, loudOp, loudOp.srcL, quietOp.minA, lendL, holdR_shut, holdR_pass, holdR_norm, nrm, nrmL, fz_v, fz_agg, fz_tup, fz_clo, fz_sl, fz_fp, fz_mf, fz_mp, fz_ptr, fz_ref, mapO_nil, mapO_cons, shut, shut.shutL, flat, flat.flatL, readL, partA, cellsA, one, ones, binV, eqOp, nilEq, sameA, eqT, eqFs, eqN, fillA, partsA, placesOf, litCells, zeros, bnd, bnds, K.agg, cond_true, cond_false, List.getElem?_cons_zero, List.getElem?_cons_succ, List.getElem?_nil, List.getElem?_toArray, List.length_cons, List.length_nil, List.drop_zero, List.drop_succ_cons, List.drop_nil, List.take_succ_cons, List.take_zero, List.take_nil, List.set_cons_zero, List.set_cons_succ, List.cons_append, List.nil_append, List.append_nil, List.map_cons, List.map_nil, List.all_cons, List.all_nil, Option.bind_some, Option.bind_none, Option.map_some, Option.map_none, Bool.and_true, Bool.true_and, Bool.and_false, Bool.false_and, Bool.or_true, Bool.true_or, Bool.or_false, Bool.false_or, Bool.not_true, Bool.not_false, Array.toList, List.isEmpty_nil, List.isEmpty_cons, List.isEmpty_toArray, Option.some.injEq, A.v.injEq, A.agg.injEq, Value.int.injEq, Value.bool.injEq, Nat.zero_add, Nat.add_zero, and_self, and_true, true_and, eq_self, reduceCtorEq, ↓reduceIte, Nat.reduceEqDiff, Nat.reduceAdd, Nat.reduceMul, Nat.reduceSub, Nat.reduceLeDiff, Nat.reduceLT, Nat.reducePow, Nat.reduceDiv, Nat.reduceMod, Int.reduceDiv, Int.reduceMod, Int.reduceTDiv, Int.reduceTMod, Int.reduceAdd, Int.reduceMul, Int.reduceSub, Int.reduceNeg, Int.reduceToNat, Int.reduceLE, Int.reduceLT, Int.reduceEq, Int.reduceNe, Int.reduceGT, Int.reduceGE, Int.toNat_natCast, Int.toNat_zero, Int.toNat_one, decide_true, decide_false, ite_yes, ite_no, dec_yes, dec_no, beq_yes, beq_no, bne_yes, bne_no, wrap_u8, wrap_u16, wrap_u64, wrap_i64, tdiv_pos, tmod_pos, CxT3, ty3, CxT4, ty4, CxT5, ty5, CxT9, ty9, CxT21, ty21, CxT22, ty22, CxT23, ty23, CxT24, ty24, CxT25, ty25, CxT27, ty27, CxT29, ty29, CxT31, ty31, CxT33, ty33, CxT34, ty34, CxT36, ty36, CxT37, ty37, CxT38, ty38, CxT39, ty39, CxT40, ty40, CxT42, ty42, CxT44, ty44, CxT45, ty45, CxT47, ty47, CxT48, ty48, CxT50, ty50, CxT52, ty52, CxT53, ty53, CxT56, ty56, CxT57, ty57, CxT58, ty58, CxT59, ty59, CxT61, ty61, CxT62, ty62, CxT63, ty63, CxT65, ty65, CxT66, ty66, CxT67, ty67, CxT69, ty69, CxT77, ty77, CxT81, ty81, CxT83, ty83, CxT84, ty84, CxT85, ty85, CxT87, ty87, CxT88, ty88, CxT90, ty90, CxT95, ty95, CxT97, ty97, CxT98, ty98, CxT100, ty100, CxT103, ty103, CxT106, ty106, CxT108, ty108, CxT111, ty111, CxT120, ty120, CxT122, ty122, CxT124, ty124, CxT126, ty126, CxT127, ty127, CxT140, ty140, CxT142, ty142, CxT148, ty148, CxT150, ty150, CxT152, ty152, CxT153, ty153, CxT155, ty155, CxT164, ty164, CxT168, ty168, CxT170, ty170, CxT177, ty177, CxT178, ty178, CxT181, ty181, CxT194, ty194, CxT200, ty200, CxT203, ty203, CxT204, ty204, CxT206, ty206, CxT207, ty207, CxT209, ty209, CxT211, ty211, CxT216, ty216, CxT217, ty217, CxT225, ty225, CxT230, ty230, CxT235, ty235, CxT237, ty237, CxT239, ty239, CxT249, ty249, CxT252, ty252, CxT254, ty254, CxT257, ty257, CxT258, ty258, CxT265, ty265, CxT266, ty266, CxT270, ty270, CxT273, ty273, CxT275, ty275, CxT278, ty278, CxT280, ty280, CxT282, ty282, CxT283, ty283, CxT286, ty286, CxT287, ty287, CxT288, ty288, CxT290, ty290, CxT292, ty292, CxT297, ty297, CxT299, ty299, CxT304, ty304, CxT318, ty318, CxT328, ty328, CxT345, ty345, CxG2, CxG6, CxG0, CxG7, CxG1, CxG3]
      rw [head_norm (l := [2, 3, 7, 8, 10, 31, 32, 33]) _ _ rfl]
      simp (config := { maxSteps := 10000000 }) (disch := omega) only [runK_nil, runK_blk, runK_lp, unwK_nil, unwK_blk, unwK_code, unwK_lp, unwK_ret_blk, runK_skip, runK_exit, runK_ret, runK_seq, runK_block, runK_cond, condK_known, runK_reg, runK_ops, runK_again, againAll, againOp, eqA, eqL, eqV, Nat.beq_refl, opsK_nil, opsK_cons, wantK_no, wantK_yes, wantK_free, wants, anyK_loud, anyK_quiet, anyK_call, freeK_lit, freeK_quiet, freeK_call, isLoud, isLit, litQ, beq_self_eq_true, undef, beq_true, beq_false, Bool.false_beq, Bool.true_beq, heapK_some, quietK_some, lentK_some, retK_go, retK_back, FinQ, result, resAll, resOne, calls, callee, opnd, opnds, opndO, ofV, look_cons, look_nil, keepE, put, argE, quietOp, loudOp, loudOp.srcL, quietOp.minA, lendL, holdR_shut, holdR_pass, holdR_norm, nrm, nrmL, fz_v, fz_agg, fz_tup, fz_clo, fz_sl, fz_fp, fz_mf, fz_mp, fz_ptr, fz_ref, mapO_nil, mapO_cons, shut, shut.shutL, flat, flat.flatL, readL, partA, cellsA, one, ones, binV, eqOp, nilEq, sameA, eqT, eqFs, eqN, fillA, partsA, placesOf, litCells, zeros, bnd, bnds, K.agg, cond_true, cond_false, List.getElem?_cons_zero, List.getElem?_cons_succ, List.getElem?_nil, List.getElem?_toArray, List.length_cons, List.length_nil, List.drop_zero, List.drop_succ_cons, List.drop_nil, List.take_succ_cons, List.take_zero, List.take_nil, List.set_cons_zero, List.set_cons_succ, List.cons_append, List.nil_append, List.append_nil, List.map_cons, List.map_nil, List.all_cons, List.all_nil, Option.bind_some, Option.bind_none, Option.map_some, Option.map_none, Bool.and_true, Bool.true_and, Bool.and_false, Bool.false_and, Bool.or_true, Bool.true_or, Bool.or_false, Bool.false_or, Bool.not_true, Bool.not_false, Array.toList, List.isEmpty_nil, List.isEmpty_cons, List.isEmpty_toArray, Option.some.injEq, A.v.injEq, A.agg.injEq, Value.int.injEq, Value.bool.injEq, Nat.zero_add, Nat.add_zero, and_self, and_true, true_and, eq_self, reduceCtorEq, ↓reduceIte, Nat.reduceEqDiff, Nat.reduceAdd, Nat.reduceMul, Nat.reduceSub, Nat.reduceLeDiff, Nat.reduceLT, Nat.reducePow, Nat.reduceDiv, Nat.reduceMod, Int.reduceDiv, Int.reduceMod, Int.reduceTDiv, Int.reduceTMod, Int.reduceAdd, Int.reduceMul, Int.reduceSub, Int.reduceNeg, Int.reduceToNat, Int.reduceLE, Int.reduceLT, Int.reduceEq, Int.reduceNe, Int.reduceGT, Int.reduceGE, Int.toNat_natCast, Int.toNat_zero, Int.toNat_one, decide_true, decide_false, ite_yes, ite_no, dec_yes, dec_no, beq_yes, beq_no, bne_yes, bne_no, wrap_u8, wrap_u16, wrap_u64, wrap_i64, tdiv_pos, tmod_pos]
      have := stageB p.old p.new
      simp only [encP, i8, e] at this
      exact this
end Go.Proofs.YtnhknhniemfnjaaGreatDoor.Ev
