/- book: a table is filled, place by place. -/
import Derived.Test.YtnhknhniemfnjaaGreatDoorF3
import Derived.Test.YtnhknhniemfnjaaGreatDoorF8
set_option linter.unusedSimpArgs false
set_option linter.unusedVariables false
namespace Go.Proofs.YtnhknhniemfnjaaGreatDoor.Ev
open Go Go.RowKit
set_option maxRecDepth 100000
section
variable {α : Type}
theorem ap_getk (H l : List α) (k : Nat) : (H ++ l)[H.length + k]? = l[k]? := by
  rw [List.getElem?_append_right (by omega)]
  simp
theorem ap_setk (H l : List α) (k : Nat) (y : α) : (H ++ l).set (H.length + k) y = H ++ l.set k y := by
  rw [List.set_append_right _ _ (by omega)]
  simp
end
theorem shut_vals : ∀ vs : List Value, shut.shutL (vs.map .v) = true
  | [] => rfl
  | v :: vs => by simp only [List.map_cons, shut.shutL, shut, shut_vals vs, Bool.and_self]
def placeC (i : Nat) : List A := [bo (pH i), i8 (pS i : Nat), i8 (pO i : Nat)]
theorem placeC_eq (i : Nat) : .agg (placeC i) = placeA i := (place_parts i).symm
def encI : List Nat → List A
  | [] => []
  | i :: l => placeC i ++ encI l
theorem encI_len : ∀ l : List Nat, (encI l).length = l.length * 3
  | [] => rfl
  | i :: l => by
    simp only [encI, List.length_append, encI_len l, placeC, List.length_cons, List.length_nil]
    omega
theorem encI_app : ∀ a b : List Nat, encI (a ++ b) = encI a ++ encI b
  | [], _ => rfl
  | i :: a, b => by simp only [List.cons_append, encI, encI_app a b, List.append_assoc]
theorem encI_drop (pre suf : List Nat) : List.drop (pre.length * 3) (encI (pre ++ suf)) = encI suf := by
  rw [encI_app, ← encI_len, List.drop_left]
/-- The rule of a place that the text leaves open. -/
def ruleN (wt : Nat → Bool) (i : Nat) : Int := bif wt i then 2 else 3
def fillM (wt : Nat → Bool) : List Nat → List Value → List Value
  | [], vs => vs
  | i :: l, vs => fillM wt l (putC vs (1 + 3 * i) (ruleN wt i) 0 0)
variable {X : FuncId → List A → Option A} {wt : Nat → Bool}
theorem rule_ev (hX : X 74 = fun _ => none) (h75 : ∀ i, i < 188 → EvQ (CA X) 75 [i8 2, placeA i] (bo (wt i))) {i : Nat} (hi : i < 188) (cs : List A) : EvQ (CA X) 74 [placeA i, .fp (i8 2 :: cs)] (i8 (ruleN wt i)) := by
  have h := h75 i hi
  rw [place_parts] at h ⊢
  refine evQ_of (C := CA X) (m := fn74) CxB74 (by show X 74 _ = none; rw [hX]) (by simp [fn74]) ?_
  cases hw : wt i with
  | true =>
    rw [hw] at h
    simp (config := { maxSteps := 10000000 }) (disch := omega) only [i8, bo, fn74, m74, CA_T, hw, ruleN, passK_shut (C := CA X) (f := 75) rfl, QK.use h, unwK_nil, unwK_code, runK_ret, runK_seq, runK_cond, condK_known, runK_reg, opsK_nil, opsK_cons, wantK_yes, wants, anyK_loud, anyK_quiet, anyK_call, isLoud, heapK_some, quietK_some, lentK_some, FinQ, result, resAll, resOne, calls, callee, opnd, opnds, ofV, look_cons, keepE, put, argE, quietOp, loudOp, lendL, holdR_pass, fz_v, fz_agg, mapO_nil, mapO_cons, shut, shut.shutL, flat, readL, partA, cellsA, one, ones, K.agg, cond_true, List.getElem?_cons_zero, List.length_cons, List.length_nil, List.drop_zero, List.take_succ_cons, List.take_nil, List.cons_append, List.nil_append, List.append_nil, List.all_cons, List.all_nil, Option.bind_some, Option.map_some, Bool.and_true, Bool.or_true, List.isEmpty_nil, List.isEmpty_toArray, Nat.zero_add, and_self, eq_self, reduceCtorEq, ↓reduceIte, Nat.reduceEqDiff, Nat.reduceAdd, Nat.reduceLeDiff, Nat.reduceLT, CxT140, ty140, CxT142, ty142, CxT148, ty148]
  | false =>
    rw [hw] at h
    simp (config := { maxSteps := 10000000 }) (disch := omega) only [i8, bo, fn74, m74, CA_T, hw, ruleN, passK_shut (C := CA X) (f := 75) rfl, QK.use h, unwK_nil, runK_skip, runK_ret, runK_seq, runK_cond, condK_known, runK_reg, opsK_nil, opsK_cons, wantK_yes, wants, anyK_loud, anyK_quiet, anyK_call, isLoud, heapK_some, quietK_some, lentK_some, FinQ, result, resAll, resOne, calls, callee, opnd, opnds, ofV, look_cons, keepE, put, argE, quietOp, loudOp, lendL, holdR_pass, fz_v, fz_agg, mapO_nil, mapO_cons, shut, shut.shutL, flat, readL, partA, cellsA, one, ones, K.agg, cond_false, List.getElem?_cons_zero, List.length_cons, List.length_nil, List.drop_zero, List.take_succ_cons, List.take_nil, List.cons_append, List.nil_append, List.append_nil, List.all_cons, List.all_nil, Option.bind_some, Option.map_some, Bool.and_true, Bool.or_true, List.isEmpty_nil, List.isEmpty_toArray, Nat.zero_add, and_self, eq_self, reduceCtorEq, ↓reduceIte, Nat.reduceEqDiff, Nat.reduceAdd, Nat.reduceLeDiff, Nat.reduceLT, CxT140, ty140, CxT142, ty142, CxT148, ty148]
set_option maxHeartbeats 16000000 in
theorem fill_loop (hX : X 74 = fun _ => none) (h75 : ∀ i, i < 188 → EvQ (CA X) 75 [i8 2, placeA i] (bo (wt i))) (hS : ∀ (vs : List Value) (i : Nat) (c1 c2 c3 : Int), vs.length = 565 → ones (vs.map .v) = true → i < 188 → EvQ (CA X) 110 [.agg (vs.map .v), placeA i, .agg [i8 c1, i8 c2, .v (.int .u16 c3)]] (.tup [.agg ((putC vs (1 + 3 * i) c1 c2 c3).map .v), i64 0]))
    {d : Nat} {KK : List It} {Q : Ex → St → Prop} :
    ∀ (suf pre : List Nat) (vs : List Value) (H : Heap), vs.length = 565 → ones (vs.map .v) = true → H[d]? = some (some ⟨142, i8 2 :: vs.map .v, true⟩) → (∀ i ∈ suf, i < 188) → (pre ++ suf).length ≤ 4611686018427387904 →
      (∀ e H', H'[d]? = some (some ⟨142, i8 2 :: (fillM wt suf vs).map .v, true⟩) → (∀ j, j ≠ d → j < H.length → H'[j]? = H[j]?) → UnwK (CA X) (.out 0) KK ⟨e, H'⟩ Q) →
      RunK (CA X) (.code (.loop m73_l0) :: KK) ⟨[(0, .ptr d 0), (1, .clo 74 [] [.ptr d 0]), (13, .sl (pre ++ suf).length (encI (pre ++ suf))), (14, i64 (pre ++ suf).length), (15, i64 pre.length)], H⟩ Q := by
  intro suf
  induction suf with
  | nil =>
    intro pre vs H hv h1 hd _ hn hT
    rw [runK_loop]
    simp (config := { maxSteps := 10000000 }) (disch := omega) only [i64, u73_l0, List.append_nil, Int.lt_irrefl, unwK_code, unwK_lp, runK_exit, runK_seq, runK_cond, condK_known, runK_reg, opsK_nil, opsK_cons, wantK_yes, wants, anyK_quiet, isLoud, quietK_some, calls, opnd, look_cons, keepE, put, quietOp, binV, cond_false, List.append_nil, eq_self, reduceCtorEq, ↓reduceIte, Nat.reduceEqDiff, decide_false]
    exact hT _ _ hd fun _ _ _ => rfl
  | cons i suf ih =>
    intro pre vs H hv h1 hd hok hn hT
    have hi := hok i (.head _)
    have hlen : (pre ++ i :: suf).length = pre.length + (suf.length + 1) := by simp
    have hdr : List.drop (pre.length * 3) (encI (pre ++ i :: suf)) = placeC i ++ encI suf := encI_drop pre (i :: suf)
    have hr := rule_ev hX h75 hi (vs.map .v)
    have hs := hS vs i (ruleN wt i) 0 0 hv h1 hi
    rw [place_parts] at hr hs
    have hpl := putC_len (c1 := ruleN wt i) (c2 := 0) (c3 := 0) hv (show 1 + 3 * i + 3 ≤ 565 by omega)
    have hp1 := putC_one (off := 1 + 3 * i) (c1 := ruleN wt i) (c2 := 0) (c3 := 0) h1
    have hfm : fillM wt (i :: suf) vs = fillM wt suf (putC vs (1 + 3 * i) (ruleN wt i) 0 0) := rfl
    rw [hfm] at hT
    have hi1 := fun H' hd' (ho : ∀ j, j ≠ d → j < H.length → H'[j]? = H[j]?) (hl' : H.length ≤ H'.length) => ih (pre ++ [i]) (putC vs (1 + 3 * i) (ruleN wt i) 0 0) H' hpl hp1 hd' (fun j hj => hok j (.tail _ hj)) (by simpa using hn) (fun e H'' k1 k2 => hT e H'' k1 fun j j1 j2 => (k2 j j1 (by omega)).trans (ho j j1 j2))
    generalize putC vs (1 + 3 * i) (ruleN wt i) 0 0 = ws at *
    have ld := ap_low hd
    have lds := ap_slow hd
    have ht : List.take 565 (List.map A.v vs) = List.map A.v vs := List.take_of_length_le (by simp [hv])
    have hdz : List.drop 565 (List.map A.v z42) = [] := List.drop_of_length_le (by simp [z42_len])
    have hdv : List.drop 565 (List.map A.v vs) = [] := List.drop_of_length_le (by simp [hv])
    have htw : List.take 565 (List.map A.v ws) = List.map A.v ws := List.take_of_length_le (by simp [hpl])
    rw [runK_loop]
    simp (config := { maxSteps := 10000000 }) (disch := omega) only [i64, i8, bo, placeC, u73_l0, CA_T, hlen, hdr, ap_get0, ap_set0, ld, lds, ap_getk, ap_setk, List.append_assoc, List.length_append, List.length_map, encI_len, t42, z42_len, hv, hpl, hp1, ht, hdz, hdv, htw, fz_vals, shut_vals, QK.use hr, passK_shut (C := CA X) (f := 110) rfl, QK.use hs, runK_blk, runK_lp, runK_skip, runK_seq, runK_block, runK_cond, condK_known, runK_reg, opsK_nil, opsK_cons, wantK_yes, wantK_free, wants, anyK_loud, anyK_quiet, anyK_call, freeK_quiet, freeK_call, isLoud, isLit, undef, heapK_some, quietK_some, lentK_some, calls, callee, opnd, opnds, ofV, look_cons, keepE, put, quietOp, loudOp, lendL, fz_v, fz_agg, fz_ptr, mapO_nil, mapO_cons, shut, shut.shutL, flat, flat.flatL, readL, partA, cellsA, one, ones, binV, fillA, partsA, placesOf, K.agg, cond_true, cond_false, List.getElem?_cons_zero, List.getElem?_cons_succ, List.length_cons, List.length_nil, List.drop_zero, List.drop_succ_cons, List.drop_nil, List.take_succ_cons, List.take_zero, List.take_nil, List.set_cons_zero, List.set_cons_succ, List.cons_append, List.nil_append, List.append_nil, List.map_cons, List.map_nil, List.all_cons, List.all_nil, Option.bind_some, Option.map_some, Bool.and_true, Bool.and_false, Bool.or_true, Bool.true_or, List.isEmpty_nil, List.isEmpty_toArray, Nat.zero_add, and_self, true_and, eq_self, reduceCtorEq, ↓reduceIte, Nat.reduceEqDiff, Nat.reduceAdd, Nat.reduceSub, Nat.reduceLeDiff, Nat.reduceLT, Int.toNat_natCast, ite_yes, dec_yes, bne_no, wrap_i64, CxT5, ty5, CxT34, ty34, CxT36, ty36, CxT142, ty142, CxT148, ty148, CxT181, ty181]
    rw [loop_norm (l := [0, 1, 13, 14, 15]) rfl]
    simp (config := { maxSteps := 10000000 }) (disch := omega) only [look_cons, keepE, eq_self, reduceCtorEq, ↓reduceIte, Nat.reduceEqDiff]
    have hfin := hi1 _ (ap_low (set_same hd (some ⟨142, i8 2 :: ws.map .v, true⟩)) [some ⟨148, placeC i, true⟩, some ⟨42, List.map A.v ws, true⟩]) (fun j j1 j2 => by
      rw [List.getElem?_append_left (by simpa using j2), List.getElem?_set_ne (Ne.symm j1)]) (by simp)
    simpa only [i64, i8, bo, placeC, List.append_assoc, List.singleton_append, List.length_append, List.length_cons, List.length_nil, Nat.zero_add, Int.natCast_add, Int.natCast_one] using hfin
theorem fillM_len {wt : Nat → Bool} : ∀ (L : List Nat) (vs : List Value), (∀ i ∈ L, i < 188) → vs.length = 565 → (fillM wt L vs).length = 565
  | [], vs, _, hv => hv
  | i :: L, vs, hL, hv => fillM_len L _ (fun j hj => hL j (.tail _ hj)) (putC_len hv (by have := hL i (.head _); omega))
theorem fillM_one {wt : Nat → Bool} : ∀ (L : List Nat) (vs : List Value), ones (vs.map .v) = true → ones ((fillM wt L vs).map .v) = true
  | [], vs, h => h
  | i :: L, vs, h => fillM_one L _ (putC_one h)
theorem b73 : (CA X).B 73 = some fn73 := CxB73
theorem p73 : isPass (CA X) 73 = true := CxP73
theorem zq_len : (List.replicate 188 ([.int .u8 0, .int .u8 0, .int .u16 0] : List Value)).flatten.length = 564 := by kernel_rfl
theorem zq_ones : ones (List.map A.v (List.replicate 188 ([.int .u8 0, .int .u8 0, .int .u16 0] : List Value)).flatten) = true := by kernel_rfl
theorem zq_drop : List.drop 564 (List.map A.v (List.replicate 188 ([.int .u8 0, .int .u8 0, .int .u16 0] : List Value)).flatten) = [] := List.drop_of_length_le (by rw [List.length_map, zq_len]; exact Nat.le_refl _)
/-- The table of a protocol: what its text gives, filled. -/
theorem make_ev (hX : X 74 = fun _ => none) (hX38 : X 38 = fun _ => none) (h75 : ∀ i, i < 188 → EvQ (CA X) 75 [i8 2, placeA i] (bo (wt i))) (hS : ∀ (vs : List Value) (i : Nat) (c1 c2 c3 : Int), vs.length = 565 → ones (vs.map .v) = true → i < 188 → EvQ (CA X) 110 [.agg (vs.map .v), placeA i, .agg [i8 c1, i8 c2, .v (.int .u16 c3)]] (.tup [.agg ((putC vs (1 + 3 * i) c1 c2 c3).map .v), i64 0]))
    {nm tx : ByteArray} (hnm : (nm.toList == ({ data := #[] } : ByteArray).toList) = false) (h70 : EvQ (CA X) 70 [i8 2] (.v (.string nm))) (h72 : EvQ (CA X) 72 [i8 2] (.v (.string tx))) {vs : List Value} (hv : vs.length = 565) (h1 : ones (vs.map .v) = true) (h71 : EvQ (CA X) 71 [.v (.string tx)] (.tup [.agg (vs.map .v), i64 0, i64 0]))
    {L : List Nat} (hL : ∀ i ∈ L, i < 188) (hLn : L.length ≤ 4611686018427387904) (h109 : EvQ (CA X) 109 [.agg (vs.map .v)] (.sl L.length (encI L))) :
    EvQ (CA X) 38 [i8 2] (.tup [.agg ((fillM wt L vs).map .v), i64 0]) := by
  refine evQ_of (C := CA X) (m := fn38) CxB38 (by show X 38 _ = none; rw [hX38]) (by simp [fn38]) ?_
  have ht : List.take 565 (List.map A.v vs) = List.map A.v vs := List.take_of_length_le (by simp [hv])
  have hdz : List.drop 565 (List.map A.v z42) = [] := List.drop_of_length_le (by simp [z42_len])
  simp (config := { maxSteps := 10000000 }) (disch := omega) only [i64, i8, fn38, m38, CA_T, t42, z42_len, zq_len, zq_ones, zq_drop, hv, h1, ht, hdz, List.length_map, fz_vals, shut_vals, passK_shut (C := CA X) (f := 70) rfl, QK.use h70, passK_shut (C := CA X) (f := 72) rfl, QK.use h72, passK_shut (C := CA X) (f := 71) rfl, QK.use h71, hnm, passK_in (b73 (X := X)) p73, fn73, m73, passK_shut (C := CA X) (f := 109) rfl, QK.use h109, runK_skip, runK_seq, runK_block, runK_cond, condK_known, runK_reg, opsK_nil, opsK_cons, wantK_yes, wants, anyK_loud, anyK_quiet, anyK_call, isLoud, undef, heapK_some, quietK_some, lentK_some, calls, callee, opnd, opnds, ofV, look_cons, keepE, put, argE, quietOp, loudOp, lendL, fz_v, fz_agg, shut, flat, flat.flatL, readL, partA, cellsA, one, ones, binV, fillA, partsA, placesOf, K.agg, cond_false, List.getElem?_cons_zero, List.getElem?_cons_succ, List.getElem?_toArray, List.length_cons, List.length_nil, List.drop_zero, List.drop_succ_cons, List.take_succ_cons, List.take_zero, List.set_cons_zero, List.set_cons_succ, List.cons_append, List.nil_append, List.append_nil, List.map_cons, List.all_cons, List.all_nil, Option.bind_some, Option.map_some, Bool.and_true, Bool.or_true, Bool.true_or, List.isEmpty_nil, List.isEmpty_toArray, Nat.zero_add, Nat.add_zero, and_self, true_and, eq_self, reduceCtorEq, ↓reduceIte, Nat.reduceEqDiff, Nat.reduceAdd, Nat.reduceLeDiff, Nat.reduceLT, bne_no, CxT140, ty140, CxT142, ty142, CxT181, ty181]
  rw [loop_norm (l := [0, 1, 13, 14, 15]) rfl]
  simp (config := { maxSteps := 10000000 }) (disch := omega) only [look_cons, keepE, eq_self, reduceCtorEq, ↓reduceIte, Nat.reduceEqDiff]
  refine fill_loop hX h75 hS (d := 1) L [] vs _ hv h1 rfl hL hLn fun e H' hd ho => ?_
  have h0 : H'[0]? = some (some ⟨42, List.map A.v z42, true⟩) := ho 0 (by decide) (by simp)
  have hs0 := set_same h0
  have hfl : (fillM wt L vs).length = 565 := fillM_len L vs hL hv
  have hf1 : ones ((fillM wt L vs).map .v) = true := fillM_one L vs h1
  generalize fillM wt L vs = ws at *
  have htw : List.take 565 (List.map A.v ws) = List.map A.v ws := List.take_of_length_le (by simp [hfl])
  simp (config := { maxSteps := 10000000 }) (disch := omega) only [i8, CA_T, hd, h0, hs0, t42, z42_len, hfl, hf1, htw, hdz, List.length_map, fz_vals, unwK_nil, unwK_blk, runK_skip, runK_ret, runK_seq, runK_cond, condK_known, runK_reg, opsK_nil, opsK_cons, wantK_yes, wants, anyK_loud, anyK_quiet, isLoud, undef, heapK_some, quietK_some, retK_back, FinQ, result, resAll, resOne, calls, opnd, ofV, look_cons, keepE, put, quietOp, loudOp, holdR_shut, fz_v, fz_agg, fz_tup, mapO_nil, mapO_cons, readL, partA, cellsA, binV, K.agg, cond_false, List.getElem?_cons_zero, List.getElem?_cons_succ, List.drop_zero, List.drop_succ_cons, List.take_zero, List.cons_append, List.nil_append, List.append_nil, Option.bind_some, Option.map_some, Nat.zero_add, and_self, eq_self, ↓reduceIte, Nat.reduceEqDiff, Nat.reduceLeDiff, Nat.reduceLT, bne_no, CxT142, ty142]
end Go.Proofs.YtnhknhniemfnjaaGreatDoor.Ev
