/- tags.Right, a home's entry (the program): the contracts. -/
import Derived.Test.YtnhknhniemfnjaaGreatDoorN3
set_option linter.unusedSimpArgs false
set_option linter.unusedVariables false
namespace Go.Proofs.YtnhknhniemfnjaaGreatDoor.Ev
open Go Go.RowKit
set_option maxRecDepth 100000
set_option maxHeartbeats 16000000 in
theorem pnote_loop {cs B : List A} {N : Nat → Rp} (hN : CacheN cs N) (hB : ∀ i < 4, ∃ tl, List.drop (i * 7) B = cR (N i) ++ tl) (hBl : B.length = 28) {c h o s y : Int} (hk : OkG c h o s y) {KK : List It} {Q : Ex → St → Prop} :
    ∀ (e i : Nat) (H : Heap), i + e = 4 → H[0]? = some (some ⟨122, [i64 c, i64 h, i64 o, i64 s, i64 y], true⟩) → H[1]? = some (some ⟨90, cs, true⟩) →
      (allN (noteB s y N) i e = false → ∀ H, UnwK Cx .back KK ⟨[(4, bo false)], H⟩ Q) →
      (allN (noteB s y N) i e = true → ∀ H, UnwK Cx (.out 0) KK ⟨[(10, bo false), (2, .ptr 0 0), (3, .ptr 1 0), (8, .agg (B)), (9, i64 4)], H⟩ Q) →
      RunK Cx (.code (.loop m51_l0) :: KK) ⟨[(2, .ptr 0 0), (3, .ptr 1 0), (8, .agg (B)), (9, i64 i)], H⟩ Q := by
  obtain ⟨c1, c2, h1, h2, o1, o2, s1, s2, y1, y2⟩ := id hk
  intro e
  induction e with
  | zero =>
    intro i H he g0 g1 _ hT
    have hj : i = 4 := by omega
    subst hj
    have := hT rfl H
    rw [runK_loop]
    simp (disch := omega) only [go_sem, simprocAttr]
    exact this
  | succ e ih =>
    intro i H he g0 g1 hF hT
    have hi : i < 4 := by omega
    simp only [allN] at hF hT
    have hnx := fun H' a b c d => ih (i + 1) H' (by omega) a b c d
    clear ih
    have k0 := ap_low g0
    have k1 := ap_low g1
    obtain ⟨tl, hdn⟩ := hB i hi
    obtain ⟨t0, hd0⟩ := hN.note 0 (by decide)
    rw [Nat.zero_mul, Nat.add_zero] at hd0
    have hR := rpright_ev (k := (N i).kind) (w := (N i).ways) (b := (N i).b) (hN.ok i hi).o0 (hN.ok i hi).o1 (hN.ok i hi).o2 (hN.ok i hi).o3
    rw [show rpOk (N i).kind (N i).ways (N i).o0 (N i).o1 (N i).o2 (N i).o3 (N i).b = okR (N i) from rfl] at hR
    have en : noteB s y N i = if s ≤ i then zeroR (N i) else okR (N i) && (decide ((N i).kind = (N 0).kind) && decide ((N i).ways = y)) := rfl
    have no : noteB s y N i = false → ∀ H, UnwK Cx .back KK ⟨[(4, bo false)], H⟩ Q := fun h => hF (by rw [h]; rfl)
    have yes : noteB s y N i = true → ∀ T, RunK Cx (.code (.loop m51_l0) :: KK) ⟨[(2, .ptr 0 0), (3, .ptr 1 0), (8, .agg (B)), (9, i64 ((i : Int) + 1))], H ++ T⟩ Q := fun h T => by
      rw [h] at hF hT
      simpa only [Int.natCast_add, Int.natCast_one] using hnx (H ++ T) (k0 T) (k1 T) hF hT
    clear hnx hF hT
    rw [en] at no yes
    generalize N i = r at *
    generalize N 0 = r0 at *
    rw [runK_loop]
    by_cases q1 : s ≤ i
    · rw [if_pos q1] at no yes
      cases qz : (r.kind == 0 && (r.ways == 0 && ((r.o0 == 0 && (r.o1 == 0 && (r.o2 == 0 && r.o3 == 0))) && r.b == 0)))
      · simp (disch := omega) only [go_sem, g0, g1, k0, k1, hdn, hd0, hBl, simprocAttr, passK_shut CxP88, QK.use hR]
        simp (disch := omega) only [go_sem, qz, simprocAttr]
        exact no qz _
      · simp (disch := omega) only [go_sem, g0, g1, k0, k1, hdn, hd0, hBl, simprocAttr, passK_shut CxP88, QK.use hR]
        simp (disch := omega) only [go_sem, qz, simprocAttr]
        rw [loop_norm (l := [2, 3, 8, 9]) rfl]
        simp (disch := omega) only [go_sem, simprocAttr]
        exact yes qz _
    rw [if_neg q1] at no yes
    cases qr : okR r <;> rw [qr] at hR no yes
    · simp (disch := omega) only [go_sem, g0, g1, k0, k1, hdn, hd0, hBl, simprocAttr, passK_shut CxP88, QK.use hR]
      exact no rfl _
    by_cases q2 : r.kind = r0.kind
    case neg =>
      simp (disch := omega) only [go_sem, g0, g1, k0, k1, hdn, hd0, hBl, simprocAttr, passK_shut CxP88, QK.use hR]
      exact no (by simp [q2]) _
    by_cases q3 : r.ways = y
    case neg =>
      simp (disch := omega) only [go_sem, g0, g1, k0, k1, hdn, hd0, hBl, simprocAttr, passK_shut CxP88, QK.use hR]
      exact no (by simp [q3]) _
    simp (disch := omega) only [go_sem, g0, g1, k0, k1, hdn, hd0, hBl, simprocAttr, passK_shut CxP88, QK.use hR]
    rw [loop_norm (l := [2, 3, 8, 9]) rfl]
    simp (disch := omega) only [go_sem, simprocAttr]
    exact yes (by simp [q2, q3]) _
set_option maxHeartbeats 8000000 in
theorem pnotes_ev {cs : List A} {W : Nat → Nat → Ln} {N : Nat → Rp} (hC : CacheR cs W) (hN : CacheN cs N) {c h o s y : Int} (hk : OkG c h o s y) : EvQ Cx 51 [encG c h o s y, .agg cs] (bo (allN (noteB s y N) 0 4)) := by
  have hlc := hC.len
  have hone := hC.one
  refine evQ_of CxB51 rfl (by simp [fn51]) ?_
  simp (disch := omega) only [go_sem, hlc, hone, List.length_drop, simprocAttr]
  rw [loop_norm (l := [2, 3, 8, 9]) rfl]
  simp (disch := omega) only [go_sem, simprocAttr]
  have hB : ∀ i < 4, ∃ tl, List.drop (i * 7) (List.take 28 (List.drop 128 cs)) = cR (N i) ++ tl := fun i hi => by
    obtain ⟨tl, ht⟩ := hN.note i hi
    refine ⟨List.take (28 - i * 7 - 7) tl, ?_⟩
    rw [List.drop_take, List.drop_drop, ht, List.take_append, List.take_of_length_le (by simp only [cR, List.length_cons, List.length_nil]; omega)]
    rfl
  refine pnote_loop hN hB (by rw [List.length_take, List.length_drop, hlc]; rfl) hk 4 0 _ rfl rfl rfl (fun h H => ?_) fun h H => ?_
  all_goals
    rw [h]
    simp (disch := omega) only [go_sem, simprocAttr]
theorem cells_S {cs : List A} {W : Nat → Nat → Ln} (hC : CacheR cs W) : ∃ ns, ns.length = 32 ∧ cs = encS (fun k => W (k / 4) (k % 4)) 16 ++ ns := by
  have key : ∀ n, n ≤ 16 → List.take (n * 8) cs = encS (fun k => W (k / 4) (k % 4)) n := by
    intro n
    induction n with
    | zero => intro _; rfl
    | succ n ih =>
      intro hn
      obtain ⟨tl, ht⟩ := hC.way (n / 4) (n % 4) (by omega) (by omega)
      rw [show n / 4 * 32 + n % 4 * 8 = n * 8 by omega] at ht
      rw [encS, ← ih (by omega), show (n + 1) * 8 = n * 8 + 8 by omega, List.take_add, ht]
      rfl
  refine ⟨List.drop 128 cs, by rw [List.length_drop, hC.len], ?_⟩
  rw [← key 16 (by omega), List.take_append_drop]
def zeroLT (x : Ln) : Bool := x.line == 0 && (x.state == 0 && (x.need == 0 && (x.has == false && ((x.d0 == 0 && (x.d1 == 0 && (x.d2 == 0 && (x.d3 == 0 && true)))) && true))))
def zeroRT (V : Nat → Ln) (k : Nat) : Bool := zeroLT (V k) && (zeroLT (V (k + 1)) && (zeroLT (V (k + 2)) && (zeroLT (V (k + 3)) && true)))
def zeroST (V : Nat → Ln) : Bool := zeroRT V 0 && (zeroRT V 4 && (zeroRT V 8 && (zeroRT V 12 && true)))
theorem eq85 (V : Nat → Ln) : eqOp Cx.T .eql 85 (.agg (encS V 16)) (.agg (z85.map A.v)) = some (.v (.bool (zeroST V))) := by kernel_rfl
theorem zeroLT_eq (x : Ln) : zeroLT x = zeroLn x := by
  simp only [zeroLT, zeroLn, Bool.and_true]
theorem zeroST_eq (V : Nat → Ln) : zeroST V = zeroS V := by
  simp only [zeroST, zeroRT, zeroS, allN, zeroLT_eq, Bool.and_true, Bool.and_assoc, Nat.zero_add, Nat.reduceAdd]
set_option maxHeartbeats 16000000 in
theorem stored_ev {cs : List A} {W : Nat → Nat → Ln} (hC : CacheR cs W) (hO : CacheO W) {c h o s y : Int} (hk : OkG c h o s y) : EvQ Cx 50 [encG c h o s y, .agg cs] (bo (pstB o s y.toNat W)) := by
  have hL := glines_yes c h o s y hk
  have hS := slots_ev (c := c) (h := h) (o := o) (s := s) (y := y)
  have hlc := hC.len
  have hone := hC.one
  obtain ⟨ns, hns, hcs⟩ := cells_S hC
  rw [← visit_zero y.toNat W] at hcs
  have hlen : ∀ V, (encS V 16).length = 128 := fun V => encS_len V 16
  subst hcs
  obtain ⟨c1, c2, h1, h2, o1, o2, s1, s2, y1, y2⟩ := id hk
  refine evQ_of CxB50 rfl (by simp [fn50]) ?_
  simp (disch := omega) only [go_sem, runK_rf, rfK_fn, callK_in, endK_go, endK_back, exK_go, exK_out, exK_back, pendK_some, anyK_yl, ylK_in, roundK_some, asgR_go, asgR_some, rndR_go, rndR_out, rndR_back, rndR_some, RecA.blk, zipE, newRecA, hlc, hone, simprocAttr, passK_shut CxP31, QK.use hL, passK_shut CxP85, QK.use hS]
  rw [callK_in CxB120 CxP120]
  simp (disch := omega) only [go_sem, runK_rf, rfK_fn, callK_in, endK_go, endK_back, exK_go, exK_out, exK_back, pendK_some, anyK_yl, ylK_in, roundK_some, asgR_go, asgR_some, rndR_go, rndR_out, rndR_back, rndR_some, RecA.blk, zipE, newRecA, simprocAttr]
  rw [loop_norm (l := [0, 1, 7, 8]) rfl]
  simp (disch := omega) only [go_sem, simprocAttr]
  refine stored_all hk hO (n := y.toNat) (k := s.toNat) (by omega) (by omega) s.toNat 0 0 (by omega) (by omega) (fun q V s' e' => ?_) (fun q s' _ => ?_)
  · unfold pstB
    rw [q, Bool.false_and]
    simp (disch := omega) only [go_sem, runK_rf, rfK_fn, callK_in, endK_go, endK_back, exK_go, exK_out, exK_back, pendK_some, anyK_yl, ylK_in, roundK_some, asgR_go, asgR_some, rndR_go, rndR_out, rndR_back, rndR_some, RecA.blk, zipE, newRecA, bas, basX, recOf, pending, exOfN, hlen, List.length_append, simprocAttr, passK_shut CxP31, QK.use hL]
    exact ⟨_, rfl⟩
  · unfold pstB
    rw [q, Bool.true_and]
    have htk : ∀ V, List.take 128 (encS V 16 ++ ns) = encS V 16 := fun V => by rw [← hlen V, List.take_left]
    have hq := eq85 (visit y.toNat W s.toNat 0)
    rw [zeroST_eq] at hq
    simp (config := { maxSteps := 10000000 }) (disch := omega) only [i64, i8, bo, i64u, encG, cR, runK_rf, rfK_fn, callK_in, endK_go, endK_back, exK_go, exK_out, exK_back, pendK_some, anyK_yl, ylK_in, roundK_some, asgR_go, asgR_some, rndR_go, rndR_out, rndR_back, rndR_some, RecA.blk, zipE, newRecA, bas, basX, recOf, pending, exOfN, hlen, htk, hq, List.length_append, t85, runK_nil, runK_blk, runK_lp, unwK_nil, unwK_blk, unwK_code, unwK_lp, unwK_ret_blk, runK_skip, runK_exit, runK_ret, runK_seq, runK_block, runK_cond, condK_known, runK_reg, runK_ops, runK_again, againAll, againOp, eqA, eqL, eqV, Nat.beq_refl, opsK_nil, opsK_cons, wantK_no, wantK_yes, wantK_free, wants, anyK_loud, anyK_quiet, anyK_call, freeK_lit, freeK_quiet, freeK_call, isLoud, isLit, litQ, beq_self_eq_true, undef, beq_true, beq_false, Bool.false_beq, Bool.true_beq, heapK_some, quietK_some, lentK_some, retK_go, retK_back, FinQ, result, resAll, resOne, calls, callee, opnd, opnds, opndO, ofV, look_cons, look_nil, keepE, put, argE, quietOp, loudOp, loudOp.srcL, quietOp.minA, lendL, holdR_shut, holdR_pass, holdR_norm, nrm, nrmL, fz_v, fz_agg, fz_tup, fz_clo, fz_sl, fz_fp, fz_mf, fz_mp, fz_ptr, fz_ref, mapO_nil, mapO_cons, shut, shut.shutL, flat, flat.flatL, readL, partA, cellsA, one, ones, binV, eqOp, nilEq, sameA, eqT, eqFs, eqN, fillA, partsA, placesOf, litCells, zeros, bnd, bnds, K.agg, cond_true, cond_false, List.getElem?_cons_zero, List.getElem?_cons_succ, List.getElem?_nil, List.getElem?_toArray, List.length_cons, List.length_nil, List.drop_zero, List.drop_succ_cons, List.drop_nil, List.take_succ_cons, List.take_zero, List.take_nil, List.set_cons_zero, List.set_cons_succ, List.cons_append, List.nil_append, List.append_nil, List.map_cons, List.map_nil, List.all_cons, List.all_nil, Option.bind_some, Option.bind_none, Option.map_some, Option.map_none, Bool.and_true, Bool.true_and, Bool.and_false, Bool.false_and, Bool.or_true, Bool.true_or, Bool.or_false, Bool.false_or, Bool.not_true, Bool.not_false, Array.toList, List.isEmpty_nil, List.isEmpty_cons, List.isEmpty_toArray, Option.some.injEq, A.v.injEq, A.agg.injEq, Value.int.injEq, Value.bool.injEq, Nat.zero_add, Nat.add_zero, and_self, and_true, true_and, eq_self, reduceCtorEq, ↓reduceIte, Nat.reduceEqDiff, Nat.reduceAdd, Nat.reduceMul, Nat.reduceSub, Nat.reduceLeDiff, Nat.reduceLT, Nat.reducePow, Nat.reduceDiv, Nat.reduceMod, Int.reduceDiv, Int.reduceMod, Int.reduceTDiv, Int.reduceTMod, Int.reduceAdd, Int.reduceMul, Int.reduceSub, Int.reduceNeg, Int.reduceToNat, Int.reduceLE, Int.reduceLT, Int.reduceEq, Int.reduceNe, Int.reduceGT, Int.reduceGE, Int.toNat_natCast, Int.toNat_zero, Int.toNat_one, decide_true, decide_false, ite_yes, ite_no, dec_yes, dec_no, beq_yes, beq_no, bne_yes, bne_no, wrap_u8, wrap_u16, wrap_u64, wrap_i64, tdiv_pos, tmod_pos, CxT3, ty3, CxT4, ty4, CxT5, ty5, CxT9, ty9, CxT22, ty22, CxT23, ty23, CxT24, ty24, CxT25, ty25, CxT27, ty27, CxT29, ty29, CxT31, ty31, CxT33, ty33, CxT34, ty34, CxT36, ty36, CxT37, ty37, CxT38, ty38, CxT39, ty39, CxT40, ty40, CxT42, ty42, CxT44, ty44, CxT50, ty50, CxT56, ty56, CxT57, ty57, CxT58, ty58, CxT59, ty59, CxT61, ty61, CxT62, ty62, CxT63, ty63, CxT65, ty65, CxT66, ty66, CxT67, ty67, CxT69, ty69, CxT70, ty70, CxT71, ty71, CxT77, ty77, CxT81, ty81, CxT83, ty83, CxT84, ty84, CxT85, ty85, CxT87, ty87, CxT88, ty88, CxT90, ty90, CxT95, ty95, CxT97, ty97, CxT98, ty98, CxT103, ty103, CxT106, ty106, CxT108, ty108, CxT111, ty111, CxT120, ty120, CxT122, ty122, CxT124, ty124, CxT126, ty126, CxT127, ty127, CxT152, ty152, CxT153, ty153, CxT155, ty155, CxT164, ty164, CxT168, ty168, CxT194, ty194, CxT200, ty200, CxT264, ty264, CxT278, ty278, CxT280, ty280, CxT345, ty345, CxG2, CxG6, CxG0, CxG7, CxG1, CxG3, -eqOp, -CxT85]
    exact ⟨_, rfl⟩
theorem allN_and (p q : Nat → Bool) : ∀ d i, allN (fun i => p i && q i) i d = (allN p i d && allN q i d)
  | 0, _ => rfl
  | d + 1, i => by
    simp only [allN, allN_and p q d (i + 1)]
    cases p i <;> cases q i <;> cases allN p (i + 1) d <;> rfl
set_option maxHeartbeats 8000000 in
theorem tags_ev {cs : List A} {W : Nat → Nat → Ln} {N : Nat → Rp} (hC : CacheR cs W) (hO : CacheO W) (hN : CacheN cs N) (c h o s y : Int) : EvQ Cx 29 [encG c h o s y, .agg cs] (bo (rtagB c h o s y W N)) := by
  have hR := gright_ev c h o s y
  have hlc := hC.len
  have hone := hC.one
  have hsh := hC.shut
  have hfz := hC.fz
  have htk : List.take 160 cs = cs := List.take_of_length_le (by omega)
  unfold rtagB
  refine evQ_of CxB29 rfl (by simp [fn29]) ?_
  by_cases hk : OkG c h o s y
  case neg =>
    rw [decide_eq_false hk] at hR ⊢
    simp (disch := omega) only [go_sem, hlc, hone, hsh, hfz, htk, simprocAttr, passK_shut CxP28, QK.use hR]
  rw [decide_eq_true hk] at hR ⊢
  have hS := stored_ev hC hO hk
  have hT := pnotes_ev hC hN hk
  have er : allN (rowB o s y W N) 0 4 = (pstB o s y.toNat W && allN (noteB s y N) 0 4) := by
    obtain ⟨c1, c2, h1, h2, o1, o2, s1, s2, y1, y2⟩ := hk
    rw [pst_same hO s1 s2 (by omega), show ((y.toNat : Nat) : Int) = y by omega, ← allN_and]
    rfl
  rw [er, Bool.true_and]
  generalize allN (noteB s y N) 0 4 = b2 at *
  generalize pstB o s y.toNat W = b1 at *
  cases b1
  · simp (disch := omega) only [go_sem, hlc, hone, hsh, hfz, htk, simprocAttr, passK_shut CxP28, QK.use hR, passK_shut CxP50, QK.use hS, passK_shut CxP51, QK.use hT]
  · simp (disch := omega) only [go_sem, hlc, hone, hsh, hfz, htk, simprocAttr, passK_shut CxP28, QK.use hR, passK_shut CxP50, QK.use hS, passK_shut CxP51, QK.use hT]
theorem wait_and : ∀ w : Nat, w < 256 → ((IntKind.u8.wrap ((BitVec.ofInt IntKind.u8.bits (w : Int) &&& ~~~ BitVec.ofInt IntKind.u8.bits 3).toNat : Int)) == 0) = decide ((w : Int) ≤ 3) := by decide +kernel
set_option maxHeartbeats 16000000 in
theorem entry_ev {d : Dr} (dk : d.Ok) (hm : d.mask < 2 ^ 64) {c h o s y : Int} (hk : OkG c h o s y) : EvQ Cx 32 [encG c h o s y, .agg (cD d)] (bo (homeB c.toNat d)) := by
  obtain ⟨c1, c2, h1, h2, o1, o2, s1, s2, y1, y2⟩ := id hk
  obtain ⟨n, rfl⟩ : ∃ n : Nat, c = n := ⟨c.toNat, by omega⟩
  have hV := vright_ev d.kind hm d.all (n := n) (by omega) (by omega)
  obtain ⟨a1, a2⟩ := dk.state
  obtain ⟨a3, a4⟩ := dk.wait
  obtain ⟨a5, a6⟩ := dk.asker
  obtain ⟨a7, a8⟩ := dk.owner
  obtain ⟨w, hwn⟩ : ∃ w : Nat, d.wait = w := ⟨d.wait.toNat, by omega⟩
  have hw := wait_and w (by omega)
  rw [← hwn] at hw
  simp (disch := omega) only [go_sem, simprocAttr] at hw
  rw [Int.toNat_natCast]
  unfold homeB
  generalize vwOk d.kind d.mask d.all n = vw at *
  refine evQ_of CxB32 rfl (by simp [fn32]) ?_
  by_cases q1 : d.state ≤ 3
  case neg =>
    rw [decide_eq_false q1]
    simp (disch := omega) only [go_sem, hw, simprocAttr, passK_shut CxP57, QK.use hV]
  rw [decide_eq_true q1]
  by_cases q4 : d.owner = 255
  · rw [decide_eq_true (.inl q4 : d.owner = 255 ∨ d.owner < (n : Int))]
    by_cases q3 : d.asker < n
    case neg =>
      rw [decide_eq_false q3]
      simp (disch := omega) only [go_sem, hw, simprocAttr, passK_shut CxP57, QK.use hV]
    rw [decide_eq_true q3]
    by_cases q2 : d.wait ≤ 3
    case neg =>
      rw [decide_eq_false q2] at hw ⊢
      simp (disch := omega) only [go_sem, hw, simprocAttr, passK_shut CxP57, QK.use hV]
    rw [decide_eq_true q2] at hw ⊢
    cases vw
    · simp (disch := omega) only [go_sem, hw, simprocAttr, passK_shut CxP57, QK.use hV]
    · simp (disch := omega) only [go_sem, hw, simprocAttr, passK_shut CxP57, QK.use hV]
  by_cases q5 : d.owner < n
  · rw [decide_eq_true (.inr q5 : d.owner = 255 ∨ d.owner < (n : Int))]
    by_cases q3 : d.asker < n
    case neg =>
      rw [decide_eq_false q3]
      simp (disch := omega) only [go_sem, hw, simprocAttr, passK_shut CxP57, QK.use hV]
    rw [decide_eq_true q3]
    by_cases q2 : d.wait ≤ 3
    case neg =>
      rw [decide_eq_false q2] at hw ⊢
      simp (disch := omega) only [go_sem, hw, simprocAttr, passK_shut CxP57, QK.use hV]
    rw [decide_eq_true q2] at hw ⊢
    cases vw
    · simp (disch := omega) only [go_sem, hw, simprocAttr, passK_shut CxP57, QK.use hV]
    · simp (disch := omega) only [go_sem, hw, simprocAttr, passK_shut CxP57, QK.use hV]
  · rw [decide_eq_false (fun h => h.elim q4 q5 : ¬ (d.owner = 255 ∨ d.owner < (n : Int)))]
    simp (disch := omega) only [go_sem, hw, simprocAttr, passK_shut CxP57, QK.use hV]
end Go.Proofs.YtnhknhniemfnjaaGreatDoor.Ev
namespace Go.Proofs.YtnhknhniemfnjaaGreatDoor.Ev
open Go Go.RowKit
set_option maxRecDepth 100000
def Ext (H G : Heap) : Prop := ∃ T, G = H ++ T
theorem Ext.refl (H : Heap) : Ext H H := ⟨[], (List.append_nil H).symm⟩
theorem Ext.app {H G : Heap} (h : Ext H G) (T : Heap) : Ext H (G ++ T) := by
  obtain ⟨T', rfl⟩ := h
  exact ⟨T' ++ T, List.append_assoc ..⟩
theorem Ext.trans {H G K : Heap} (h : Ext H G) (h' : Ext G K) : Ext H K := by
  obtain ⟨T', rfl⟩ := h'
  exact h.app T'
theorem Ext.get {H G : Heap} (h : Ext H G) {b : Nat} {a : Option Blk} (hb : H[b]? = some a) : G[b]? = some a := by
  obtain ⟨T', rfl⟩ := h
  exact ap_low hb T'
structure Scn (H : Heap) (xb : Nat) (c h o s y l : Int) (d : Dr) (bl : Nat) (L : Nat → Ln) (n : Nat) (nv : A) (net : List Mg) : Prop where
  x : H[xb]? = some (some ⟨108, [i64 c, i64 h, i64 o, i64 s, i64 y, i8 l, i8 d.state, i8 d.owner, i8 d.kind, i64u d.mask, bo d.all, i8 d.wait, i8 d.asker, i8 d.d0, i8 d.d1, i8 d.d2, i8 d.d3, .ref bl 0 n 8, nv], true⟩)
  ls : H[bl]? = some (some ⟨83, encS L n, false⟩)
  nt : (net = [] ∧ nv = .v (.slice none 0 0)) ∨ ∃ bn, nv = .ref bn 0 net.length 11 ∧ H[bn]? = some (some ⟨77, encN net, false⟩)
theorem Scn.ext {H G : Heap} {xb : Nat} {c h o s y l : Int} {d : Dr} {bl : Nat} {L : Nat → Ln} {n : Nat} {nv : A} {net : List Mg} (S : Scn H xb c h o s y l d bl L n nv net) (e : Ext H G) : Scn G xb c h o s y l d bl L n nv net :=
  ⟨e.get S.x, e.get S.ls, S.nt.imp id fun ⟨bn, h1, h2⟩ => ⟨bn, h1, e.get h2⟩⟩
theorem encS_get (L : Nat → Ln) {k n : Nat} (h : k < n) : ∃ tl, List.drop (k * 8) (encS L n) = cL (L k) ++ tl := by
  have := encS_at L [] h
  rwa [List.append_nil] at this
theorem cntL_nn (p : Ln → Bool) (L : Nat → Ln) (i : Nat) : (0 : Int) ≤ (cntL p L i : Int) := by omega
theorem exc_iff (x : Ln) : excB x = (decide (x.state = 2) || decide (x.state = 4)) := rfl
set_option maxHeartbeats 16000000 in
theorem pswmr_loop {H : Heap} {bl : Nat} {L : Nat → Ln} {n : Nat} (hn : n ≤ 4) (hb : H[bl]? = some (some ⟨83, encS L n, false⟩)) {KK : List It} {Q : Ex → St → Prop}
    (hT : ∀ G, Ext H G → UnwK Cx (.out 0) KK ⟨[(14, bo false), (3, i64 (cntL (fun x => cpyB x.state) L n)), (4, i64 (cntL (fun x => ownB x.state) L n)), (5, i64 (cntL excB L n)), (11, .ref bl 0 n 8), (12, i64 n), (13, i64 n)], G⟩ Q) :
    ∀ (e i : Nat) (G : Heap), i + e = n → Ext H G → RunK Cx (.code (.loop m66_l0) :: KK) ⟨[(3, i64 (cntL (fun x => cpyB x.state) L i)), (4, i64 (cntL (fun x => ownB x.state) L i)), (5, i64 (cntL excB L i)), (11, .ref bl 0 n 8), (12, i64 n), (13, i64 i)], G⟩ Q := by
  intro e
  induction e with
  | zero =>
    intro i G hi hE
    obtain rfl : i = n := by omega
    rw [runK_loop]
    simp (disch := omega) only [go_sem, Int.lt_irrefl, simprocAttr]
    exact hT G hE
  | succ e ih =>
    intro i G hi hE
    have hin : i < n := by omega
    have g0 := hE.get hb
    have l0 := ap_low g0
    have hlen := encS_len L n
    obtain ⟨tl, hd⟩ := encS_get L hin
    have hcy := cpy_ev (L i)
    have how := own_ev (L i)
    have q1 := cntL_le (fun x => cpyB x.state) L i
    have q2 := cntL_le (fun x => ownB x.state) L i
    have q3 := cntL_le excB L i
    have := fun T => ih (i + 1) (G ++ T) (by omega) (hE.app T)
    have e1 : cntL (fun x => cpyB x.state) L (i + 1) = cntL (fun x => cpyB x.state) L i + if cpyB (L i).state then 1 else 0 := rfl
    have e2 : cntL (fun x => ownB x.state) L (i + 1) = cntL (fun x => ownB x.state) L i + if ownB (L i).state then 1 else 0 := rfl
    have e3 : cntL excB L (i + 1) = cntL excB L i + if excB (L i) then 1 else 0 := rfl
    rw [e1, e2, e3, exc_iff] at this
    clear e1 e2 e3 ih
    generalize cntL (fun x => cpyB x.state) L i = k1 at *
    generalize cntL (fun x => ownB x.state) L i = k2 at *
    generalize cntL excB L i = k3 at *
    rw [runK_loop]
    cases vc : cpyB (L i).state <;> cases vo : ownB (L i).state <;> rw [vc] at hcy this <;> rw [vo] at how this
    all_goals
      by_cases x2 : (L i).state = 2
      · simp only [x2, decide_true, Bool.true_or, if_true, Bool.false_eq_true, if_false, Nat.add_zero, Int.natCast_add, Int.natCast_one] at this
        simp (disch := omega) only [go_sem, g0, l0, hd, hin, hlen, simprocAttr, passK_shut CxP96, QK.use hcy, passK_shut CxP97, QK.use how]
        rw [loop_norm (l := [3, 4, 5, 11, 12, 13]) rfl]
        simp (disch := omega) only [go_sem, simprocAttr]
        exact this _
      by_cases x4 : (L i).state = 4
      · simp only [x4, decide_true, Bool.or_true, if_true, Bool.false_eq_true, if_false, Nat.add_zero, Int.natCast_add, Int.natCast_one] at this
        simp (disch := omega) only [go_sem, g0, l0, hd, hin, hlen, simprocAttr, passK_shut CxP96, QK.use hcy, passK_shut CxP97, QK.use how]
        rw [loop_norm (l := [3, 4, 5, 11, 12, 13]) rfl]
        simp (disch := omega) only [go_sem, simprocAttr]
        exact this _
      · simp only [x2, x4, decide_false, Bool.or_false, if_true, Bool.false_eq_true, if_false, Nat.add_zero, Int.natCast_add, Int.natCast_one] at this
        simp (disch := omega) only [go_sem, g0, l0, hd, hin, hlen, simprocAttr, passK_shut CxP96, QK.use hcy, passK_shut CxP97, QK.use how]
        rw [loop_norm (l := [3, 4, 5, 11, 12, 13]) rfl]
        simp (disch := omega) only [go_sem, simprocAttr]
        exact this _
set_option maxHeartbeats 8000000 in
theorem pswmr_pass {H : Heap} {xb : Nat} {c h o s y l : Int} {d : Dr} {bl : Nat} {L : Nat → Ln} {n : Nat} {nv : A} {net : List Mg} (S : Scn H xb c h o s y l d bl L n nv net) (hn : n ≤ 4) {dst : Option Nat} {ms : List MOp} {e : Env} {k : List It} {Q : Ex → St → Prop}
    (hK : ∀ G, Ext H G → OpsK Cx 0 ms ⟨put e dst (bo (pswB L n)), G⟩ k Q) : PassK Cx 66 [.ptr xb 0] dst ms ⟨e, H⟩ k Q := by
  have hx := S.x
  rw [passK_in CxB66 CxP66]
  simp (disch := omega) only [go_sem, hx, simprocAttr]
  rw [loop_norm (l := [3, 4, 5, 11, 12, 13]) rfl]
  simp (disch := omega) only [go_sem, simprocAttr]
  refine pswmr_loop hn S.ls (fun G hE => ?_) n 0 H (by omega) (Ext.refl H)
  have hk := hK G hE
  unfold pswB at hk
  have q1 := cntL_le (fun x => cpyB x.state) L n
  have q2 := cntL_le (fun x => ownB x.state) L n
  have q3 := cntL_le excB L n
  generalize cntL (fun x => cpyB x.state) L n = k1 at *
  generalize cntL (fun x => ownB x.state) L n = k2 at *
  generalize cntL excB L n = k3 at *
  by_cases p1 : k2 ≤ 1
  · rw [decide_eq_true p1] at hk
    by_cases p2 : k3 = 0
    · rw [decide_eq_true p2] at hk
      simp (disch := omega) only [go_sem, simprocAttr]
      exact hk
    · rw [decide_eq_false p2] at hk
      by_cases p3 : k1 = 1
      · rw [decide_eq_true p3] at hk
        simp (disch := omega) only [go_sem, simprocAttr]
        exact hk
      · rw [decide_eq_false p3] at hk
        simp (disch := omega) only [go_sem, simprocAttr]
        exact hk
  · rw [decide_eq_false p1] at hk
    simp (disch := omega) only [go_sem, simprocAttr]
    exact hk
end Go.Proofs.YtnhknhniemfnjaaGreatDoor.Ev
namespace Go.Proofs.YtnhknhniemfnjaaGreatDoor.Ev
open Go Go.RowKit
set_option maxRecDepth 100000
abbrev cW (w : W4) : List A := [i8 w.a, i8 w.b, i8 w.c, i8 w.d]
attribute [go_sem] cW
def encW : List W4 → List A
  | [] => []
  | w :: l => cW w ++ encW l
theorem encW_len : ∀ l : List W4, (encW l).length = l.length * 4
  | [] => rfl
  | w :: l => by
    rw [encW, List.length_append, encW_len l, List.length_cons]
    simp only [cW, List.length_cons, List.length_nil]
    omega
theorem encW_app : ∀ a b : List W4, encW (a ++ b) = encW a ++ encW b
  | [], _ => rfl
  | p :: a, b => by simp only [List.cons_append, encW, encW_app a b, List.append_assoc]
theorem encW_drop (pre suf : List W4) : List.drop (pre.length * 4) (encW (pre ++ suf)) = encW suf := by
  rw [encW_app, ← encW_len, List.drop_left]
theorem Ext.set {H G : Heap} (h : Ext H G) {b : Nat} (hb : H.length ≤ b) (y : Option Blk) : Ext H (G.set b y) := by
  obtain ⟨T, rfl⟩ := h
  exact ⟨T.set (b - H.length) y, by rw [List.set_append_right _ _ hb]⟩
theorem Ext.len {H G : Heap} (h : Ext H G) : H.length ≤ G.length := by
  obtain ⟨T, rfl⟩ := h
  rw [List.length_append]
  omega
def SlW (k : Nat) (G : Heap) (v : A) (M : List W4) : Prop := (M = [] ∧ v = .v (.slice none 0 0)) ∨ (M ≠ [] ∧ ∃ b, k ≤ b ∧ v = .ref b 0 M.length 4 ∧ G[b]? = some (some ⟨63, encW M, false⟩))
set_option maxHeartbeats 16000000 in
theorem pfr_loop {H : Heap} {xb bl : Nat} {L : Nat → Ln} {n : Nat} (hn : n ≤ 4) (hb : H[bl]? = some (some ⟨83, encS L n, false⟩)) {KK : List It} {Q : Ex → St → Prop}
    (hT : ∀ G v, Ext H G → SlW H.length G v (cpL L n) → UnwK Cx (.out 0) KK ⟨[(15, bo false), (0, .ptr xb 0), (3, v), (12, .ref bl 0 n 8), (13, i64 n), (14, i64 n)], G⟩ Q) :
    ∀ (e i : Nat) (G : Heap) (v : A), i + e = n → Ext H G → SlW H.length G v (cpL L i) → RunK Cx (.code (.loop m67_l0) :: KK) ⟨[(0, .ptr xb 0), (3, v), (12, .ref bl 0 n 8), (13, i64 n), (14, i64 i)], G⟩ Q := by
  intro e
  induction e with
  | zero =>
    intro i G v hi hE hv
    obtain rfl : i = n := by omega
    rw [runK_loop]
    simp (disch := omega) only [go_sem, Int.lt_irrefl, simprocAttr]
    exact hT G v hE hv
  | succ e ih =>
    intro i G v hi hE hv
    have hin : i < n := by omega
    have g0 := hE.get hb
    have l0 := ap_low g0
    have hlen := encS_len L n
    obtain ⟨tl, hd⟩ := encS_get L hin
    have hcy := cpy_ev (L i)
    have hml : 1 ≤ maxLen := by decide
    have hcl := cpL_len L i
    have hm2 : (cpL L i).length + 1 ≤ maxLen := by
      have : 7 ≤ maxLen := by decide
      omega
    have hHl := hE.len
    have := fun G' v' h1 h2 => ih (i + 1) G' v' (by omega) h1 h2
    have e1 : cpL L (i + 1) = cpL L i ++ if cpyB (L i).state then [dat (L i)] else [] := rfl
    rw [e1] at this
    clear e1 ih
    generalize cpL L i = M at *
    rw [runK_loop]
    cases vc : cpyB (L i).state <;> rw [vc] at hcy this
    · simp only [Bool.false_eq_true, if_false, List.append_nil, Int.natCast_add, Int.natCast_one] at this
      simp (disch := omega) only [go_sem, g0, l0, hd, hin, hlen, hml, List.append_assoc, List.length_append, simprocAttr, passK_shut CxP96, QK.use hcy]
      rw [loop_norm (l := [0, 3, 12, 13, 14]) rfl]
      simp (disch := omega) only [go_sem, simprocAttr]
      refine this _ _ (hE.app _) ?_
      rcases hv with hv | ⟨h1, b, h2, h3, h4⟩
      · exact .inl hv
      · exact .inr ⟨h1, b, h2, h3, ap_low h4 _⟩
    · simp only [if_true, Int.natCast_add, Int.natCast_one] at this
      rcases hv with ⟨hn0, rfl⟩ | ⟨hne, b, hb1, rfl, hbb⟩
      · rw [hn0] at this
        simp (disch := omega) only [go_sem, g0, l0, hd, hin, hlen, hml, List.append_assoc, List.length_append, simprocAttr, passK_shut CxP96, QK.use hcy]
        rw [loop_norm (l := [0, 3, 12, 13, 14]) rfl]
        simp (disch := omega) only [go_sem, simprocAttr]
        exact this _ _ (hE.app _) (.inr ⟨by simp, G.length + 2, by omega, rfl, by rw [ap_getk']; rfl⟩)
      · have lb := ap_low hbb
        have sb := ap_slow hbb
        have hel := encW_len M
        have htl : List.take (M.length * 4) (encW M) = encW M := List.take_of_length_le (by omega)
        simp (disch := omega) only [go_sem, g0, l0, lb, sb, hd, hin, hlen, hml, hm2, htl, hel, Nat.le_refl, List.length_set, List.append_assoc, List.length_append, simprocAttr, passK_shut CxP96, QK.use hcy]
        rw [loop_norm (l := [0, 3, 12, 13, 14]) rfl]
        simp (disch := omega) only [go_sem, simprocAttr]
        refine this _ _ ((hE.set hb1 _).app _) (.inr ⟨by simp, G.length + 2, by omega, by simp, ?_⟩)
        rw [as_getk, encW_app]
        rfl
set_option maxHeartbeats 16000000 in
theorem pfr_all {H : Heap} {b : Nat} {M : List W4} (hM : M.length ≤ 8) {w : W4} {r : List W4} (hw : M = w :: r) {KK : List It} {Q : Ex → St → Prop}
    (hN : (M.all fun x => eqW x w) = false → ∀ G, Ext H G → UnwK Cx .back KK ⟨[(2, bo false)], G⟩ Q)
    (hT : (M.all fun x => eqW x w) = true → ∀ G, Ext H G → UnwK Cx (.out 2) KK ⟨[(71, bo false), (3, .ref b 0 M.length 4), (68, .ref b 0 M.length 4), (69, i64 M.length), (70, i64 M.length)], G⟩ Q) :
    ∀ (suf pre : List W4) (G : Heap), M = pre ++ suf → (pre.all fun x => eqW x w) = true → Ext H G → G[b]? = some (some ⟨63, encW M, false⟩) → RunK Cx (.code (.loop m67_l1) :: KK) ⟨[(3, .ref b 0 M.length 4), (68, .ref b 0 M.length 4), (69, i64 M.length), (70, i64 pre.length)], G⟩ Q := by
  intro suf
  induction suf with
  | nil =>
    intro pre G he hp hE gb
    rw [List.append_nil] at he
    subst he
    rw [runK_loop]
    simp (disch := omega) only [go_sem, Int.lt_irrefl, simprocAttr]
    exact hT hp G hE
  | cons x suf ih =>
    intro pre G he hp hE gb
    have lb := ap_low gb
    have hlen : M.length = pre.length + (suf.length + 1) := by rw [he]; simp
    have hlt : pre.length < M.length := by omega
    have hpos : 0 < M.length := by omega
    have hdd : List.drop (pre.length * 4) (encW M) = cW x ++ encW suf := by rw [he]; exact encW_drop pre (x :: suf)
    have hd0 : List.take 4 (encW M) = cW w := by rw [hw]; rfl
    have hel := encW_len M
    have := fun T h => ih (pre ++ [x]) (G ++ T) (by rw [he]; simp) h (hE.app T) (lb T)
    simp only [List.length_append, List.length_cons, List.length_nil, Nat.zero_add, Int.natCast_add, Int.natCast_one] at this
    rw [runK_loop]
    cases hx : eqW x w
    · have := fun T => hN (by rw [he, List.all_append, List.all_cons, hx, Bool.false_and, Bool.and_false]) (G ++ T) (hE.app T)
      unfold eqW at hx
      simp (disch := omega) only [go_sem, gb, lb, hdd, hd0, hel, hlt, hpos, simprocAttr]
      simp (disch := omega) only [go_sem, hx, simprocAttr]
      exact this _
    · have := fun T => this T (by rw [List.all_append, hp, List.all_cons, hx]; rfl)
      unfold eqW at hx
      simp (disch := omega) only [go_sem, gb, lb, hdd, hd0, hel, hlt, hpos, simprocAttr]
      simp (disch := omega) only [go_sem, hx, simprocAttr]
      rw [loop_norm (l := [3, 68, 69, 70]) rfl]
      simp (disch := omega) only [go_sem, simprocAttr]
      exact this _
def backW (M : List W4) : Bool := match M with
  | [] => true
  | w :: _ => M.all fun x => eqW x w
set_option maxHeartbeats 16000000 in
theorem pfresh_pass {H : Heap} {xb : Nat} {c h o s y l : Int} {d : Dr} {bl : Nat} {L : Nat → Ln} {n : Nat} {nv : A} {net : List Mg} (S : Scn H xb c h o s y l d bl L n nv net) (hn : n ≤ 4) (dk : d.Ok) (ho : d.owner = 255 ∨ d.owner < n) {dst : Option Nat} {ms : List MOp} {e : Env} {k : List It} {Q : Ex → St → Prop}
    (hK : ∀ G, Ext H G → OpsK Cx 0 ms ⟨put e dst (bo (pfreshL d L n)), G⟩ k Q) : PassK Cx 67 [.ptr xb 0] dst ms ⟨e, H⟩ k Q := by
  have hx := S.x
  rw [passK_in CxB67 CxP67]
  simp (disch := omega) only [go_sem, hx, simprocAttr]
  rw [loop_norm (l := [0, 3, 12, 13, 14]) rfl]
  simp (disch := omega) only [go_sem, simprocAttr]
  refine pfr_loop hn S.ls (fun G v hE hv => ?_) n 0 H _ (by omega) (Ext.refl H) (.inl ⟨rfl, rfl⟩)
  have gx := hE.get S.x
  have lx := ap_low gx
  have gl := hE.get S.ls
  have ll := ap_low gl
  unfold pfreshL at hK
  have hcl := cpL_len L n
  have hHl := hE.len
  obtain ⟨b7, b8⟩ := dk.owner
  generalize hM : cpL L n = M at *
  rcases hv with ⟨rfl, rfl⟩ | ⟨hne, b, hb1, rfl, hbb⟩
  · have := hK G hE
    simp (disch := omega) only [go_sem, simprocAttr]
    exact this
  obtain ⟨w, r, hwr⟩ : ∃ w r, M = w :: r := by
    cases M with
    | nil => exact absurd rfl hne
    | cons w r => exact ⟨w, r, rfl⟩
  have hpos : 0 < M.length := List.length_pos_iff.2 hne
  have hK' : ∀ G, Ext H G → OpsK Cx 0 ms ⟨put e dst (bo ((M ++ exW d L).all fun x => eqW x w)), G⟩ k Q := fun G hG => by
    have := hK G hG
    rw [hwr] at this ⊢
    exact this
  clear hK
  have fin : ∀ (M' : List W4) (G' : Heap) (b' : Nat), M' = M ++ exW d L → M'.length ≤ 8 → Ext H G' → G'[b']? = some (some ⟨63, encW M', false⟩) → RunK Cx (.code (.loop m67_l1) :: .blk 2 :: .code (.seq (.reg [] [⟨some 2, .assign (.const (.bool true)), none⟩] 0) .ret) :: []) ⟨[(3, .ref b' 0 M'.length 4), (68, .ref b' 0 M'.length 4), (69, i64 M'.length), (70, i64 0)], G'⟩ (RetK Cx [.tmp 2] dst ms e k Q) := by
    intro M' G' b' hM' hl' hE' hb'
    refine pfr_all hl' (w := w) (r := r ++ exW d L) (by rw [hM', hwr]; rfl) (fun q G hG => ?_) (fun q G hG => ?_) M' [] G' rfl rfl hE' hb'
    · have := hK' G hG
      rw [← hM', q] at this
      simp (disch := omega) only [go_sem, simprocAttr]
      exact this
    · have := hK' G hG
      rw [← hM', q] at this
      simp (disch := omega) only [go_sem, simprocAttr]
      exact this
  have lb := ap_low hbb
  have sb := ap_slow hbb
  have hel := encW_len M
  have htl : List.take (M.length * 4) (encW M) = encW M := List.take_of_length_le (by omega)
  have hml : 1 ≤ maxLen := by decide
  have hm2 : M.length + 1 ≤ maxLen := by
    have : 7 ≤ maxLen := by decide
    omega
  have hne0 : ¬ (M.length : Int) = 0 := by omega
  by_cases p1 : d.wait = 0
  case neg =>
    have ex : exW d L = [] := by simp [exW, p1]
    rw [ex, List.append_nil] at fin
    simp (disch := omega) only [go_sem, gx, lb, hne0, simprocAttr]
    rw [loop_norm (l := [3, 68, 69, 70]) rfl]
    simp (disch := omega) only [go_sem, simprocAttr]
    exact fin M G b rfl (by omega) hE hbb
  by_cases p2 : d.owner = 255
  · have ex : exW d L = [datH d] := by simp [exW, p1, p2]
    rw [ex] at fin
    simp (disch := omega) only [go_sem, gx, lx, lb, sb, hel, htl, hml, hm2, hne0, Nat.le_refl, List.length_set, List.append_assoc, List.length_append, simprocAttr]
    rw [loop_norm (l := [3, 68, 69, 70]) rfl]
    simp (disch := omega) only [go_sem, simprocAttr]
    have := fin (M ++ [datH d]) (G.set b none ++ [some ⟨63, cW (datH d), true⟩, some ⟨63, encW M ++ cW (datH d), false⟩]) (G.length + 1) rfl (by simp; omega) ((hE.set hb1 _).app _) (by rw [as_getk, encW_app]; rfl)
    simp only [List.length_append, List.length_cons, List.length_nil, Nat.zero_add, Int.natCast_add, Int.natCast_one] at this
    exact this
  have hlt : d.owner < n := by omega
  have hin : d.owner.toNat < n := by omega
  have hlen := encS_len L n
  obtain ⟨tl, hd⟩ := encS_get L hin
  by_cases p3 : (L d.owner.toNat).state = 10
  · have ex : exW d L = [dat (L d.owner.toNat)] := by simp [exW, p1, p2, p3]
    rw [ex] at fin
    generalize L d.owner.toNat = X at *
    simp (disch := omega) only [go_sem, gx, lx, gl, ll, lb, sb, hd, hlt, hin, hlen, hel, htl, hml, hm2, hne0, Nat.le_refl, List.length_set, List.append_assoc, List.length_append, simprocAttr]
    rw [loop_norm (l := [3, 68, 69, 70]) rfl]
    simp (disch := omega) only [go_sem, simprocAttr]
    have := fin (M ++ [dat X]) (G.set b none ++ [some ⟨83, cL X, true⟩, some ⟨63, cW (dat X), true⟩, some ⟨63, encW M ++ cW (dat X), false⟩]) (G.length + 2) rfl (by simp; omega) ((hE.set hb1 _).app _) (by rw [as_getk, encW_app]; rfl)
    simp only [List.length_append, List.length_cons, List.length_nil, Nat.zero_add, Int.natCast_add, Int.natCast_one] at this
    exact this
  · have ex : exW d L = [] := by simp [exW, p1, p2, p3]
    rw [ex, List.append_nil] at fin
    generalize L d.owner.toNat = X at *
    simp (disch := omega) only [go_sem, gx, lx, gl, ll, lb, sb, hd, hlt, hin, hlen, hel, htl, hml, hm2, hne0, Nat.le_refl, List.length_set, List.append_assoc, List.length_append, simprocAttr]
    rw [loop_norm (l := [3, 68, 69, 70]) rfl]
    simp (disch := omega) only [go_sem, simprocAttr]
    exact fin M _ b rfl (by omega) (hE.app _) (lb _)
end Go.Proofs.YtnhknhniemfnjaaGreatDoor.Ev
namespace Go.Proofs.YtnhknhniemfnjaaGreatDoor.Ev
open Go Go.RowKit
set_option maxRecDepth 100000
def TestP (H : Heap) (f : FuncId) (caps : List A) (p : Mg → Bool) : Prop :=
  ∀ (m : Mg) (G : Heap), Ext H G → ∀ (dst : Option Nat) (ms : List MOp) (e : Env) (k : List It) (Q : Ex → St → Prop), (∀ G', Ext G G' → OpsK Cx 0 ms ⟨put e dst (bo (p m)), G'⟩ k Q) → PassK Cx f (encM m :: caps) dst ms ⟨e, G⟩ k Q
theorem cntM_snoc (p : Mg → Bool) (l : List Mg) (m : Mg) : cntM p (l ++ [m]) = cntM p l + if p m then 1 else 0 := by
  rw [cntM_app]
  simp [cntM]
set_option maxHeartbeats 16000000 in
theorem pcount_loop {H : Heap} {f : FuncId} {caps : List A} {p : Mg → Bool} (hp : TestP H f caps p) {net : List Mg} (hn : net.length ≤ 100) {bn : Nat} (hb : H[bn]? = some (some ⟨77, encN net, false⟩)) {KK : List It} {Q : Ex → St → Prop}
    (hT : ∀ G, Ext H G → UnwK Cx (.out 0) KK ⟨[(14, bo false), (1, .clo f [] caps), (5, i64 (cntM p net)), (11, .ref bn 0 net.length 11), (12, i64 net.length), (13, i64 net.length)], G⟩ Q) :
    ∀ (suf pre : List Mg) (G : Heap), net = pre ++ suf → Ext H G → RunK Cx (.code (.loop m126_l0) :: KK) ⟨[(1, .clo f [] caps), (5, i64 (cntM p pre)), (11, .ref bn 0 net.length 11), (12, i64 net.length), (13, i64 pre.length)], G⟩ Q := by
  intro suf
  induction suf with
  | nil =>
    intro pre G he hE
    rw [List.append_nil] at he
    subst he
    rw [runK_loop]
    simp (disch := omega) only [go_sem, Int.lt_irrefl, simprocAttr]
    exact hT G hE
  | cons m suf ih =>
    intro pre G he hE
    have g0 := hE.get hb
    have l0 := ap_low g0
    have hlen : net.length = pre.length + (suf.length + 1) := by rw [he]; simp
    have hlt : pre.length < net.length := by omega
    have hdd : List.drop (pre.length * 11) (encN net) = cM m ++ encN suf := by rw [he]; exact encN_drop pre (m :: suf)
    have hll := encN_len net
    have hcl := cntM_le p pre
    have := fun G hG => ih (pre ++ [m]) G (by rw [he]; simp) hG
    simp only [cntM_snoc, List.length_append, List.length_cons, List.length_nil, Nat.zero_add, Int.natCast_add, Int.natCast_one] at this
    rw [runK_loop]
    simp (disch := omega) only [go_sem, g0, l0, hdd, hlt, hll, List.append_assoc, List.length_append, simprocAttr]
    refine hp m _ (hE.app _) _ _ _ _ _ fun G' hG' => ?_
    have hE' := (hE.app _).trans hG'
    cases hm : p m
    · simp only [hm, Bool.false_eq_true, if_false] at this
      simp (disch := omega) only [go_sem, g0, l0, hdd, hlt, hll, List.append_assoc, List.length_append, simprocAttr]
      rw [loop_norm (l := [1, 5, 11, 12, 13]) rfl]
      simp (disch := omega) only [go_sem, simprocAttr]
      simpa using this _ hE'
    · simp only [hm, if_true] at this
      simp (disch := omega) only [go_sem, g0, l0, hdd, hlt, hll, List.append_assoc, List.length_append, simprocAttr]
      rw [loop_norm (l := [1, 5, 11, 12, 13]) rfl]
      simp (disch := omega) only [go_sem, simprocAttr]
      simpa using this _ hE'
set_option maxHeartbeats 16000000 in
theorem pcount_pass {H : Heap} {xb : Nat} {c h o s y l : Int} {d : Dr} {bl : Nat} {L : Nat → Ln} {n : Nat} {nv : A} {net : List Mg} (S : Scn H xb c h o s y l d bl L n nv net) (hn : net.length ≤ 100) {f : FuncId} {caps : List A} {p : Mg → Bool} (hp : TestP H f caps p) {dst : Option Nat} {ms : List MOp} {e : Env} {k : List It} {Q : Ex → St → Prop}
    (hK : ∀ G, Ext H G → OpsK Cx 0 ms ⟨put e dst (i64 (cntM p net)), G⟩ k Q) : PassK Cx 126 [.ptr xb 0, .clo f [] caps] dst ms ⟨e, H⟩ k Q := by
  have hx := S.x
  rw [passK_in CxB126 CxP126]
  rcases S.nt with ⟨hz, rfl⟩ | ⟨bn, rfl, hbn⟩
  · subst hz
    simp (disch := omega) only [go_sem, hx, simprocAttr]
    rw [loop_norm (l := [1, 5, 11, 12, 13]) rfl]
    simp (disch := omega) only [go_sem, simprocAttr]
    rw [runK_loop]
    simp (disch := omega) only [go_sem, Int.lt_irrefl, simprocAttr]
    exact hK H (Ext.refl H)
  · simp (disch := omega) only [go_sem, hx, simprocAttr]
    rw [loop_norm (l := [1, 5, 11, 12, 13]) rfl]
    simp (disch := omega) only [go_sem, simprocAttr]
    refine pcount_loop hp hn hbn (fun G hE => ?_) net [] H rfl (Ext.refl H)
    simp (disch := omega) only [go_sem, simprocAttr]
    exact hK G hE
set_option maxHeartbeats 8000000 in
theorem acks_test {H : Heap} {cb : Nat} {c : Int} (hc : H[cb]? = some (some ⟨5, [i8 c], true⟩)) : TestP H 127 [.ptr cb 0] (p8 c) := by
  intro m G hE dst ms e k Q hK
  have g0 := hE.get hc
  have l0 := ap_low g0
  have := fun T => hK (G ++ T) ((Ext.refl G).app T)
  unfold p8 at this
  rw [passK_in CxB127 CxP127]
  by_cases q1 : m.kind = 8
  · have q2 : ¬ m.kind = 12 := by omega
    simp only [decide_eq_true q1, decide_eq_false q2, Bool.true_and, Bool.false_and, Bool.or_false] at this
    by_cases q3 : m.asker = c
    · rw [decide_eq_true q3] at this
      simp (disch := omega) only [go_sem, g0, l0, simprocAttr]
      exact this _
    · rw [decide_eq_false q3] at this
      simp (disch := omega) only [go_sem, g0, l0, simprocAttr]
      exact this _
  by_cases q2 : m.kind = 12
  · simp only [decide_eq_false q1, decide_eq_true q2, Bool.true_and, Bool.false_and, Bool.false_or] at this
    by_cases q3 : m.dst = c
    · rw [decide_eq_true q3] at this
      simp (disch := omega) only [go_sem, g0, l0, simprocAttr]
      exact this _
    · rw [decide_eq_false q3] at this
      simp (disch := omega) only [go_sem, g0, l0, simprocAttr]
      exact this _
  · simp only [decide_eq_false q1, decide_eq_false q2, Bool.false_and, Bool.false_or] at this
    simp (disch := omega) only [go_sem, g0, l0, simprocAttr]
    exact this _
set_option maxHeartbeats 8000000 in
theorem puts_test {H : Heap} {cb : Nat} {c : Int} (hc : H[cb]? = some (some ⟨5, [i8 c], true⟩)) : TestP H 128 [.ptr cb 0] (p3 c) := by
  intro m G hE dst ms e k Q hK
  have g0 := hE.get hc
  have l0 := ap_low g0
  have := fun T => hK (G ++ T) ((Ext.refl G).app T)
  unfold p3 at this
  rw [passK_in CxB128 CxP128]
  by_cases q1 : m.kind = 3
  · have q2 : ¬ m.kind = 9 := by omega
    simp only [decide_eq_true q1, decide_eq_false q2, Bool.true_and, Bool.false_and, Bool.or_false] at this
    by_cases q3 : m.src = c
    · rw [decide_eq_true q3] at this
      simp (disch := omega) only [go_sem, g0, l0, simprocAttr]
      exact this _
    · rw [decide_eq_false q3] at this
      simp (disch := omega) only [go_sem, g0, l0, simprocAttr]
      exact this _
  by_cases q2 : m.kind = 9
  · simp only [decide_eq_false q1, decide_eq_true q2, Bool.true_and, Bool.false_and, Bool.false_or] at this
    by_cases q3 : m.dst = c
    · rw [decide_eq_true q3] at this
      simp (disch := omega) only [go_sem, g0, l0, simprocAttr]
      exact this _
    · rw [decide_eq_false q3] at this
      simp (disch := omega) only [go_sem, g0, l0, simprocAttr]
      exact this _
  · simp only [decide_eq_false q1, decide_eq_false q2, Bool.false_and, Bool.false_or] at this
    simp (disch := omega) only [go_sem, g0, l0, simprocAttr]
    exact this _
set_option maxHeartbeats 8000000 in
theorem gets_test {H : Heap} {kb cb : Nat} {q c : Int} (hq : H[kb]? = some (some ⟨5, [i8 q], true⟩)) (hc : H[cb]? = some (some ⟨5, [i8 c], true⟩)) : TestP H 130 [.ptr kb 0, .ptr cb 0] (pSk q c) := by
  intro m G hE dst ms e k Q hK
  have g0 := hE.get hc
  have l0 := ap_low g0
  have g1 := hE.get hq
  have l1 := ap_low g1
  have := fun T => hK (G ++ T) ((Ext.refl G).app T)
  unfold pSk at this
  rw [passK_in CxB130 CxP130]
  by_cases q1 : m.kind = q
  · simp only [decide_eq_true q1, Bool.true_and] at this
    by_cases q3 : m.src = c
    · rw [decide_eq_true q3] at this
      simp (disch := omega) only [go_sem, g0, l0, g1, l1, simprocAttr]
      exact this _
    · rw [decide_eq_false q3] at this
      simp (disch := omega) only [go_sem, g0, l0, g1, l1, simprocAttr]
      exact this _
  · simp only [decide_eq_false q1, Bool.false_and] at this
    simp (disch := omega) only [go_sem, g0, l0, g1, l1, simprocAttr]
    exact this _
def idxK (x : Int) : List Int → Nat → Int
  | [], _ => -1
  | y :: l, i => if x = y then i else idxK x l (i + 1)
theorem idxK_any (x : Int) : ∀ (l : List Int) (i : Nat), decide (0 ≤ idxK x l i) = l.any fun y => decide (x = y)
  | [], i => rfl
  | y :: l, i => by
    simp only [idxK, List.any_cons]
    by_cases e : x = y
    · simp [e]
    · simp only [e, if_false, decide_false, Bool.false_or]
      exact idxK_any x l (i + 1)
set_option maxHeartbeats 8000000 in
theorem index_loop {ks : List Int} (hk : ks.length ≤ 8) {x : Int} {KK : List It} {Q : Ex → St → Prop} :
    ∀ (suf pre : List Int), ks = pre ++ suf → (∀ i : Nat, idxK x suf pre.length = i → ∀ e', UnwK Cx .back KK ⟨(4, i64 i) :: e', []⟩ Q) → (idxK x suf pre.length = -1 → UnwK Cx (.out 0) KK ⟨[(9, bo false), (0, .sl ks.length (ks.map i8)), (1, i8 x), (7, i64 ks.length), (8, i64 ks.length)], []⟩ Q) →
      RunK Cx (.code (.loop m158_l0) :: KK) ⟨[(0, .sl ks.length (ks.map i8)), (1, i8 x), (7, i64 ks.length), (8, i64 pre.length)], []⟩ Q := by
  intro suf
  induction suf with
  | nil =>
    intro pre he _ hT
    rw [List.append_nil] at he
    subst he
    have := hT rfl
    rw [runK_loop]
    simp (disch := omega) only [go_sem, Int.lt_irrefl, simprocAttr]
    exact this
  | cons q suf ih =>
    intro pre he hF hT
    have hlen : ks.length = pre.length + (suf.length + 1) := by rw [he]; simp
    have hlt : pre.length < ks.length := by omega
    have hd : List.drop pre.length (ks.map i8) = i8 q :: suf.map i8 := by rw [he, List.map_append, List.drop_left' (by simp)]; rfl
    have := ih (pre ++ [q]) (by rw [he]; simp)
    simp only [List.length_append, List.length_cons, List.length_nil, Nat.zero_add, Int.natCast_add, Int.natCast_one] at this
    rw [runK_loop]
    by_cases e : x = q
    · have := hF pre.length (by simp [idxK, e])
      simp (disch := omega) only [go_sem, hd, hlt, List.length_map, Nat.mul_one, simprocAttr]
      exact this _
    · simp only [idxK, e, if_false] at hF hT
      simp (disch := omega) only [go_sem, hd, hlt, List.length_map, Nat.mul_one, simprocAttr]
      rw [loop_norm (l := [0, 1, 7, 8]) rfl]
      simp (disch := omega) only [go_sem, simprocAttr]
      exact this hF hT
end Go.Proofs.YtnhknhniemfnjaaGreatDoor.Ev
namespace Go.Proofs.YtnhknhniemfnjaaGreatDoor.Ev
open Go Go.RowKit
set_option maxRecDepth 100000
set_option maxHeartbeats 8000000 in
theorem index_ev {ks : List Int} (hk : ks.length ≤ 8) (x : Int) : EvQ Cx 158 [.sl ks.length (ks.map i8), i8 x] (i64 (idxK x ks 0)) := by
  refine evQ_of CxB158 rfl (by simp [fn158]) ?_
  simp (disch := omega) only [go_sem, simprocAttr]
  rw [loop_norm (l := [0, 1, 7, 8]) rfl]
  simp (disch := omega) only [go_sem, simprocAttr]
  refine index_loop hk ks [] rfl (fun i hi e' => ?_) (fun hi => ?_)
  · rw [show idxK x ks 0 = i from hi]
    simp (disch := omega) only [go_sem, simprocAttr]
  · rw [show idxK x ks 0 = -1 from hi]
    simp (disch := omega) only [go_sem, simprocAttr]
theorem idx_range (x : Int) : ∀ (ks : List Int) (i : Nat), idxK x ks i = -1 ∨ 0 ≤ idxK x ks i
  | [], i => .inl rfl
  | y :: l, i => by
    simp only [idxK]
    split
    · exact .inr (by omega)
    · exact idx_range x l (i + 1)
theorem contains_ev {ks : List Int} (hk : ks.length ≤ 8) (x : Int) : EvQ Cx 132 [.sl ks.length (ks.map i8), i8 x] (bo (ks.any fun y => decide (x = y))) := by
  have hI := index_ev hk x
  rw [← idxK_any x ks 0]
  refine evQ_of CxB132 rfl (by simp [fn132]) ?_
  rcases idx_range x ks 0 with h | h
  · rw [h] at hI ⊢
    simp (disch := omega) only [go_sem, simprocAttr, passK_shut CxP158, QK.use hI]
  · generalize idxK x ks 0 = z at *
    rw [decide_eq_true h]
    simp (disch := omega) only [go_sem, simprocAttr, passK_shut CxP158, QK.use hI]
theorem fz_i8' (H : Heap) (n : Nat) : ∀ L : List Int, mapO (freeze H (n + 1)) (L.map i8) = some (L.map i8)
  | [] => rfl
  | p :: L => by
    have ih := fz_i8' H n L
    simp only [List.map_cons, i8, mapO_cons, fz_v, ih, Option.bind_some, Option.map_some]
set_option maxHeartbeats 8000000 in
theorem kinds_test {H : Heap} {kb sb : Nat} {ks : List Int} (hk : ks.length ≤ 8) (hb : H[kb]? = some (some ⟨23, [.ref sb 0 ks.length 1], true⟩)) (hs : H[sb]? = some (some ⟨5, ks.map i8, true⟩)) : TestP H 131 [.ptr kb 0] (pK ks) := by
  intro m G hE dst ms e k Q hK
  have g0 := hE.get hb
  have l0 := ap_low g0
  have g1 := hE.get hs
  have l1 := ap_low g1
  have := fun T => hK (G ++ T) ((Ext.refl G).app T)
  have hC := contains_ev hk m.kind
  have htk : List.take ks.length (ks.map i8) = ks.map i8 := List.take_of_length_le (by simp)
  have hfz := fun H n => fz_i8' H n ks
  unfold pK at this
  rw [passK_in CxB131 CxP131]
  simp (disch := omega) only [go_sem, g0, l0, g1, l1, htk, hfz, List.length_map, Nat.mul_one, Nat.le_refl, simprocAttr, passK_shut CxP132, QK.use hC]
  exact this _
set_option maxHeartbeats 8000000 in
theorem kinds_pass {H : Heap} {xb : Nat} {c h o s y l : Int} {d : Dr} {bl : Nat} {L : Nat → Ln} {n : Nat} {nv : A} {net : List Mg} (S : Scn H xb c h o s y l d bl L n nv net) (hn : net.length ≤ 100) {ks : List Int} (hk : ks.length ≤ 8) {sb : Nat} (hs : H[sb]? = some (some ⟨5, ks.map i8, true⟩)) {dst : Option Nat} {ms : List MOp} {e : Env} {k : List It} {Q : Ex → St → Prop}
    (hK : ∀ G, Ext H G → OpsK Cx 0 ms ⟨put e dst (i64 (cntM (pK ks) net)), G⟩ k Q) : PassK Cx 102 [.ptr xb 0, .ref sb 0 ks.length 1] dst ms ⟨e, H⟩ k Q := by
  rw [passK_in CxB102 CxP102]
  simp (disch := omega) only [go_sem, simprocAttr]
  have hE : Ext H (H ++ [some ⟨23, [.ref sb 0 ks.length 1], true⟩]) := (Ext.refl H).app _
  refine pcount_pass (S.ext hE) hn (kinds_test hk (ap_get0 ..) (hE.get hs)) (fun G hG => ?_)
  simp (disch := omega) only [go_sem, simprocAttr]
  exact hK G (hE.trans hG)
set_option maxHeartbeats 16000000 in
theorem packs_loop {H : Heap} {xb cb : Nat} {c a0 : Int} {net : List Mg} (hok : ∀ m ∈ net, m.Ok) (hn : net.length ≤ 100) {bn : Nat} (hc : H[cb]? = some (some ⟨5, [i8 c], true⟩)) (hb : H[bn]? = some (some ⟨77, encN net, false⟩)) {KK : List It} {Q : Ex → St → Prop}
    (hT : ∀ G, Ext H G → UnwK Cx (.out 0) KK ⟨[(23, bo false), (0, .ptr xb 0), (3, .ptr cb 0), (5, i64 (pAckF c a0 net)), (20, .ref bn 0 net.length 11), (21, i64 net.length), (22, i64 net.length)], G⟩ Q) :
    ∀ (suf pre : List Mg) (G : Heap), net = pre ++ suf → Ext H G → RunK Cx (.code (.loop m99_l0) :: KK) ⟨[(0, .ptr xb 0), (3, .ptr cb 0), (5, i64 (pAckF c a0 pre)), (20, .ref bn 0 net.length 11), (21, i64 net.length), (22, i64 pre.length)], G⟩ Q := by
  intro suf
  induction suf with
  | nil =>
    intro pre G he hE
    rw [List.append_nil] at he
    subst he
    rw [runK_loop]
    simp (disch := omega) only [go_sem, Int.lt_irrefl, simprocAttr]
    exact hT G hE
  | cons m suf ih =>
    intro pre G he hE
    have g0 := hE.get hb
    have l0 := ap_low g0
    have g1 := hE.get hc
    have l1 := ap_low g1
    have hlen : net.length = pre.length + (suf.length + 1) := by rw [he]; simp
    have hlt : pre.length < net.length := by omega
    have hdd : List.drop (pre.length * 11) (encN net) = cM m ++ encN suf := by rw [he]; exact encN_drop pre (m :: suf)
    have hll := encN_len net
    obtain ⟨a1, a2⟩ := (hok m (by rw [he]; simp)).acks
    have := fun T => ih (pre ++ [m]) (G ++ T) (by rw [he]; simp) (hE.app T)
    have ea : ackP c m = (decide ((m.kind = 10 ∨ m.kind = 11) ∧ m.dst = c) || decide (m.kind = 7 ∧ m.asker = c)) := rfl
    simp only [pAckF_snoc, List.length_append, List.length_cons, List.length_nil, Nat.zero_add, Int.natCast_add, Int.natCast_one] at this
    rw [ea] at this
    clear ea ih
    generalize pAckF c a0 pre = v at *
    rw [runK_loop]
    by_cases q1 : m.kind = 10 ∨ m.kind = 11
    · have q2 : ¬ m.kind = 7 := by omega
      by_cases q3 : m.dst = c
      · simp only [decide_eq_true (⟨q1, q3⟩ : (m.kind = 10 ∨ m.kind = 11) ∧ m.dst = c), Bool.true_or, if_true] at this
        rcases q1 with q1 | q1
        all_goals
          simp (disch := omega) only [go_sem, g0, l0, g1, l1, hdd, hlt, hll, List.append_assoc, List.length_append, simprocAttr]
          rw [loop_norm (l := [0, 3, 5, 20, 21, 22]) rfl]
          simp (disch := omega) only [go_sem, simprocAttr]
          exact this _
      · simp only [decide_eq_false (fun h => q3 h.2 : ¬ ((m.kind = 10 ∨ m.kind = 11) ∧ m.dst = c)), decide_eq_false (fun h => q2 h.1 : ¬ (m.kind = 7 ∧ m.asker = c)), Bool.or_false, Bool.false_eq_true, if_false] at this
        rcases q1 with q1 | q1
        all_goals
          simp (disch := omega) only [go_sem, g0, l0, g1, l1, hdd, hlt, hll, List.append_assoc, List.length_append, simprocAttr]
          rw [loop_norm (l := [0, 3, 5, 20, 21, 22]) rfl]
          simp (disch := omega) only [go_sem, simprocAttr]
          exact this _
    · rw [decide_eq_false (fun h => q1 h.1 : ¬ ((m.kind = 10 ∨ m.kind = 11) ∧ m.dst = c)), Bool.false_or] at this
      have q5 : ¬ m.kind = 10 := fun h => q1 (.inl h)
      have q6 : ¬ m.kind = 11 := fun h => q1 (.inr h)
      by_cases q2 : m.kind = 7
      · by_cases q3 : m.asker = c
        · simp only [decide_eq_true (⟨q2, q3⟩ : m.kind = 7 ∧ m.asker = c), if_true] at this
          simp (disch := omega) only [go_sem, g0, l0, g1, l1, hdd, hlt, hll, List.append_assoc, List.length_append, simprocAttr]
          rw [loop_norm (l := [0, 3, 5, 20, 21, 22]) rfl]
          simp (disch := omega) only [go_sem, simprocAttr]
          exact this _
        · simp only [decide_eq_false (fun h => q3 h.2 : ¬ (m.kind = 7 ∧ m.asker = c)), Bool.false_eq_true, if_false] at this
          simp (disch := omega) only [go_sem, g0, l0, g1, l1, hdd, hlt, hll, List.append_assoc, List.length_append, simprocAttr]
          rw [loop_norm (l := [0, 3, 5, 20, 21, 22]) rfl]
          simp (disch := omega) only [go_sem, simprocAttr]
          exact this _
      · simp only [decide_eq_false (fun h => q2 h.1 : ¬ (m.kind = 7 ∧ m.asker = c)), Bool.false_eq_true, if_false] at this
        simp (disch := omega) only [go_sem, g0, l0, g1, l1, hdd, hlt, hll, List.append_assoc, List.length_append, simprocAttr]
        rw [loop_norm (l := [0, 3, 5, 20, 21, 22]) rfl]
        simp (disch := omega) only [go_sem, simprocAttr]
        exact this _
set_option maxHeartbeats 16000000 in
theorem acks_pass {H : Heap} {xb : Nat} {c h o s y l : Int} {d : Dr} {bl : Nat} {L : Nat → Ln} {n : Nat} {nv : A} {net : List Mg} (S : Scn H xb c h o s y l d bl L n nv net) (hn : net.length ≤ 100) (hok : ∀ m ∈ net, m.Ok) (h4 : n ≤ 4) {i : Nat} (hi : i < n) {dst : Option Nat} {ms : List MOp} {e : Env} {k : List It} {Q : Ex → St → Prop}
    (hK : ∀ G, Ext H G → OpsK Cx 0 ms ⟨put e dst (bo (packB (L i) net i)), G⟩ k Q) : PassK Cx 99 [.ptr xb 0, i8 i] dst ms ⟨e, H⟩ k Q := by
  have hx := S.x
  have lx := ap_low hx
  have hl := S.ls
  have ll := ap_low hl
  have hlen := encS_len L n
  obtain ⟨tl, hd0⟩ := encS_get L hi
  have hd : List.drop (i * 8 + 2) (encS L n) = [.v (.int .i8 (L i).need), bo (L i).has, i8 (L i).d0, i8 (L i).d1, i8 (L i).d2, i8 (L i).d3] ++ tl := by rw [← List.drop_drop, hd0]; rfl
  have hE : Ext H (H ++ [some ⟨5, [i8 i], true⟩]) := (Ext.refl H).app _
  have hc : (H ++ [some (⟨5, [i8 i], true⟩ : Blk)])[H.length]? = some (some ⟨5, [i8 i], true⟩) := ap_get0 ..
  have fin : ∀ G v, Ext (H ++ [some ⟨5, [i8 i], true⟩]) G → v = pAckF i (IntKind.i64.wrap (L i).need) net → PassK Cx 126 [.ptr xb 0, .clo 127 [] [.ptr H.length 0]] (some 59) [⟨some 60, .binOp .eql 3 (.tmp 56) (.tmp 59) 3, none⟩, ⟨some 4, .assign (.tmp 60), none⟩] ⟨[(58, .clo 127 [] [.ptr H.length 0]), (57, .ptr xb 0), (56, i64 v), (0, .ptr xb 0), (3, .ptr H.length 0), (5, i64 v)], G⟩ [.code .ret] (RetK Cx [.tmp 4] dst ms e k Q) := by
    intro G v hG hv
    refine pcount_pass ((S.ext hE).ext hG) hn (acks_test (hG.get hc)) (fun G' hG' => ?_)
    have := hK G' (hE.trans (hG.trans hG'))
    unfold packB at this
    rw [← hv] at this
    by_cases q : v = cntM (p8 i) net
    · rw [decide_eq_true q] at this
      simp (disch := omega) only [go_sem, simprocAttr]
      exact this
    · rw [decide_eq_false q] at this
      simp (disch := omega) only [go_sem, simprocAttr]
      exact this
  rw [passK_in CxB99 CxP99]
  rcases S.nt with ⟨hz, rfl⟩ | ⟨bn, rfl, hbn⟩
  · subst hz
    simp (disch := omega) only [go_sem, hx, lx, hl, ll, hd, hi, hlen, List.append_assoc, List.length_append, simprocAttr]
    rw [loop_norm (l := [0, 3, 5, 20, 21, 22]) rfl]
    simp (disch := omega) only [go_sem, simprocAttr]
    rw [runK_loop]
    simp (disch := omega) only [go_sem, Int.lt_irrefl, simprocAttr]
    exact fin _ _ (Ext.refl _) rfl
  · simp (disch := omega) only [go_sem, hx, lx, hl, ll, hd, hi, hlen, List.append_assoc, List.length_append, simprocAttr]
    rw [loop_norm (l := [0, 3, 5, 20, 21, 22]) rfl]
    simp (disch := omega) only [go_sem, simprocAttr]
    refine packs_loop (c := i) (a0 := IntKind.i64.wrap (L i).need) hok hn hc (hE.get hbn) (fun G hG => ?_) net [] _ rfl (Ext.refl _)
    simp (disch := omega) only [go_sem, simprocAttr]
    exact fin _ _ hG rfl
set_option maxHeartbeats 16000000 in
theorem puts_pass {H : Heap} {xb : Nat} {c h o s y l : Int} {d : Dr} {bl : Nat} {L : Nat → Ln} {n : Nat} {nv : A} {net : List Mg} (S : Scn H xb c h o s y l d bl L n nv net) (hn : net.length ≤ 100) (h4 : n ≤ 4) {i : Nat} (hi : i < n) {dst : Option Nat} {ms : List MOp} {e : Env} {k : List It} {Q : Ex → St → Prop}
    (hK : ∀ G, Ext H G → OpsK Cx 0 ms ⟨put e dst (bo (pputB (L i) net i)), G⟩ k Q) : PassK Cx 100 [.ptr xb 0, i8 i] dst ms ⟨e, H⟩ k Q := by
  have hx := S.x
  have lx := ap_low hx
  have hl := S.ls
  have ll := ap_low hl
  have hlen := encS_len L n
  obtain ⟨tl, hd0⟩ := encS_get L hi
  have hd : List.drop (i * 8 + 1) (encS L n) = [i8 (L i).state, .v (.int .i8 (L i).need), bo (L i).has, i8 (L i).d0, i8 (L i).d1, i8 (L i).d2, i8 (L i).d3] ++ tl := by rw [← List.drop_drop, hd0]; rfl
  have hE : Ext H (H ++ [some ⟨5, [i8 i], true⟩]) := (Ext.refl H).app _
  have hc : (H ++ [some (⟨5, [i8 i], true⟩ : Blk)])[H.length]? = some (some ⟨5, [i8 i], true⟩) := ap_get0 ..
  have hbit := bit_ev (decide ((L i).state = 10 ∨ (L i).state = 11))
  unfold pputB at hK
  generalize hX : L i = X at *
  rw [passK_in CxB100 CxP100]
  by_cases q1 : X.state = 10
  · simp only [decide_eq_true (.inl q1 : X.state = 10 ∨ X.state = 11)] at hbit hK
    simp (disch := omega) only [go_sem, hx, lx, hl, ll, hd, hi, hlen, List.append_assoc, List.length_append, simprocAttr, passK_shut CxP103, QK.use hbit]
    (refine pcount_pass (S.ext hE) hn (puts_test hc) (fun G hG => ?_); have hh := hK G (hE.trans hG); generalize b2i _ = v at *; by_cases q : v = cntM (p3 i) net; (rw [decide_eq_true q] at hh; simp (disch := omega) only [go_sem, simprocAttr]; exact hh); (rw [decide_eq_false q] at hh; simp (disch := omega) only [go_sem, simprocAttr]; exact hh))
  by_cases q2 : X.state = 11
  · simp only [decide_eq_true (.inr q2 : X.state = 10 ∨ X.state = 11)] at hbit hK
    simp (disch := omega) only [go_sem, hx, lx, hl, ll, hd, hi, hlen, List.append_assoc, List.length_append, simprocAttr, passK_shut CxP103, QK.use hbit]
    (refine pcount_pass (S.ext hE) hn (puts_test hc) (fun G hG => ?_); have hh := hK G (hE.trans hG); generalize b2i _ = v at *; by_cases q : v = cntM (p3 i) net; (rw [decide_eq_true q] at hh; simp (disch := omega) only [go_sem, simprocAttr]; exact hh); (rw [decide_eq_false q] at hh; simp (disch := omega) only [go_sem, simprocAttr]; exact hh))
  · simp only [decide_eq_false (fun h => h.elim q1 q2 : ¬ (X.state = 10 ∨ X.state = 11))] at hbit hK
    simp (disch := omega) only [go_sem, hx, lx, hl, ll, hd, hi, hlen, List.append_assoc, List.length_append, simprocAttr, passK_shut CxP103, QK.use hbit]
    (refine pcount_pass (S.ext hE) hn (puts_test hc) (fun G hG => ?_); have hh := hK G (hE.trans hG); generalize b2i _ = v at *; by_cases q : v = cntM (p3 i) net; (rw [decide_eq_true q] at hh; simp (disch := omega) only [go_sem, simprocAttr]; exact hh); (rw [decide_eq_false q] at hh; simp (disch := omega) only [go_sem, simprocAttr]; exact hh))
end Go.Proofs.YtnhknhniemfnjaaGreatDoor.Ev
namespace Go.Proofs.YtnhknhniemfnjaaGreatDoor.Ev
open Go Go.RowKit
set_option maxRecDepth 100000
def r101_3 : M := match m101 with
  | .seq _ (.seq _ (.seq _ r)) => r
  | m => m
def r101_5 : M := match m101 with
  | .seq _ (.seq _ (.seq _ (.seq _ (.seq _ r)))) => r
  | m => m
theorem v101_0 {C : Ctx} {k : List It} {st : St} {Q : Ex → St → Prop} : RunK C (.code m101 :: k) st Q ↔ RunK C (.code (.seq (.reg [0, 1] [⟨(some 2), .box 111 (.tmp 0), none⟩,
 ⟨(some 3), .box 5 (.tmp 1), none⟩,
 ⟨(some 4), .assign (.const (.bool false)), none⟩] 0)
 (.seq (.reg [2, 3] [⟨(some 9), .makeFunc (.func 129) #[] #[(.tmp 2), (.tmp 3)], none⟩,
 ⟨(some 5), .assign (.tmp 9), none⟩] 0)
 (.seq (.reg [2, 3, 5] [⟨(some 10), .load 111 (.tmp 2), none⟩,
 ⟨(some 11), .nilCheck (.tmp 10), none⟩,
 ⟨(some 12), .fieldAddr 108 (.tmp 11) 2, none⟩,
 ⟨(some 13), .fieldAddr 65 (.tmp 12) 3, none⟩,
 ⟨(some 14), .load 5 (.tmp 13), none⟩,
 ⟨(some 15), .binOp .and 5 (.tmp 14) (.const (.int .u8 1)) 5, none⟩,
 ⟨(some 16), .binOp .neq 5 (.tmp 15) (.const (.int .u8 0)) 5, none⟩,
 ⟨(some 17), .move (.tmp 16), none⟩,
 ⟨(some 18), .load 111 (.tmp 2), (some (17, true))⟩,
 ⟨(some 19), .nilCheck (.tmp 18), (some (17, true))⟩,
 ⟨(some 20), .fieldAddr 108 (.tmp 19) 2, (some (17, true))⟩,
 ⟨(some 21), .fieldAddr 65 (.tmp 20) 4, (some (17, true))⟩,
 ⟨(some 22), .load 5 (.tmp 21), (some (17, true))⟩,
 ⟨(some 23), .load 5 (.tmp 3), (some (17, true))⟩,
 ⟨(some 24), .binOp .eql 5 (.tmp 22) (.tmp 23) 5, (some (17, true))⟩,
 ⟨(some 25), .pick (.tmp 17) (.tmp 24) (.const (.bool false)), none⟩,
 ⟨(some 26), .move (.tmp 25), none⟩,
 ⟨(some 27), .move (.tmp 5), (some (26, true))⟩,
 ⟨(some 28), .call ⟨.value (.tmp 27), #[(.const (.int .u8 4))], #[5]⟩, (some (26, true))⟩,
 ⟨(some 29), .binOp .eql 3 (.tmp 28) (.const (.int .i64 0)) 3, (some (26, true))⟩,
 ⟨(some 30), .pick (.tmp 26) (.tmp 29) (.const (.bool false)), none⟩,
 ⟨(some 6), .assign (.tmp 30), none⟩] 14)
 r101_3))) :: k) st Q := Iff.rfl
theorem v101_3 {C : Ctx} {k : List It} {st : St} {Q : Ex → St → Prop} : RunK C (.code r101_3 :: k) st Q ↔ RunK C (.code (.seq (.reg [2, 3, 5, 6] [⟨(some 7), .assign (.const (.bool false)), none⟩,
 ⟨(some 8), .assign (.const (.bool false)), none⟩] 0)
 (.seq (.seq (.reg [2, 3, 5, 6, 7, 8] [⟨(some 31), .load 111 (.tmp 2), none⟩,
 ⟨(some 32), .nilCheck (.tmp 31), none⟩,
 ⟨(some 33), .fieldAddr 108 (.tmp 32) 3, none⟩,
 ⟨(some 34), .load 106 (.tmp 33), none⟩,
 ⟨(some 35), .load 5 (.tmp 3), none⟩,
 ⟨(some 36), .indexAddr 106 (.tmp 34) (.tmp 35), none⟩,
 ⟨(some 37), .fieldAddr 83 (.tmp 36) 1, none⟩,
 ⟨(some 38), .load 5 (.tmp 37), none⟩] 5)
 (.block 0 (.seq (.reg [5, 6, 7, 8, 38] [⟨(some 40), .binOp .eql 5 (.tmp 38) (.const (.int .u8 5)) 5, none⟩,
 ⟨(some 39), .assign (.tmp 40), none⟩] 0)
 (.cond (.tmp 39) (.reg [5, 6, 8] [⟨(some 41), .move (.tmp 6), none⟩,
 ⟨(some 42), .unOp .not 4 (.tmp 41), none⟩,
 ⟨(some 7), .assign (.tmp 42), none⟩] 0)
 (.seq (.seq (.reg [5, 6, 7, 8, 38] [⟨(some 44), .binOp .eql 5 (.tmp 38) (.const (.int .u8 6)) 5, none⟩,
 ⟨(some 43), .assign (.tmp 44), none⟩] 0)
 (.cond (.tmp 43) (.skip)
 (.seq (.reg [5, 6, 7, 8, 38] [⟨(some 45), .binOp .eql 5 (.tmp 38) (.const (.int .u8 7)) 5, none⟩,
 ⟨(some 43), .assign (.tmp 45), none⟩] 0)
 (.cond (.tmp 43) (.skip)
 (.reg [5, 6, 7, 8, 38] [⟨(some 46), .binOp .eql 5 (.tmp 38) (.const (.int .u8 8)) 5, none⟩,
 ⟨(some 43), .assign (.tmp 46), none⟩] 0)))))
 (.cond (.tmp 43) (.reg [5, 6, 7] [⟨(some 47), .move (.tmp 6), none⟩,
 ⟨(some 48), .unOp .not 4 (.tmp 47), none⟩,
 ⟨(some 8), .assign (.tmp 48), none⟩] 0)
 (.seq (.reg [5, 6, 7, 8, 38] [⟨(some 50), .binOp .eql 5 (.tmp 38) (.const (.int .u8 9)) 5, none⟩,
 ⟨(some 49), .assign (.tmp 50), none⟩] 0)
 (.cond (.tmp 49) (.seq (.reg [5, 6, 7, 8] [⟨(some 51), .move (.tmp 6), none⟩,
 ⟨(some 52), .unOp .not 4 (.tmp 51), none⟩] 0)
 (.cond (.tmp 52) (.seq (.reg [] [⟨(some 4), .assign (.const (.bool false)), none⟩] 0)
 (.ret))
 (.skip)))
 (.skip)))))))))
 r101_5)) :: k) st Q := Iff.rfl
theorem v101_5 {C : Ctx} {k : List It} {st : St} {Q : Ex → St → Prop} : RunK C (.code r101_5 :: k) st Q ↔ RunK C (.code (.seq (.reg [5, 7, 8] [⟨(some 53), .move (.tmp 5), none⟩,
 ⟨(some 54), .call ⟨.value (.tmp 53), #[(.const (.int .u8 1))], #[5]⟩, none⟩,
 ⟨(some 55), .move (.tmp 7), none⟩,
 ⟨(some 56), .call ⟨.value (.func 103), #[(.tmp 55)], #[4]⟩, none⟩,
 ⟨(some 57), .binOp .eql 3 (.tmp 54) (.tmp 56) 3, none⟩,
 ⟨(some 58), .move (.tmp 57), none⟩,
 ⟨(some 59), .move (.tmp 5), (some (58, true))⟩,
 ⟨(some 60), .call ⟨.value (.tmp 59), #[(.const (.int .u8 2))], #[5]⟩, (some (58, true))⟩,
 ⟨(some 61), .move (.tmp 8), (some (58, true))⟩,
 ⟨(some 62), .call ⟨.value (.func 103), #[(.tmp 61)], #[4]⟩, (some (58, true))⟩,
 ⟨(some 63), .binOp .eql 3 (.tmp 60) (.tmp 62) 3, (some (58, true))⟩,
 ⟨(some 64), .pick (.tmp 58) (.tmp 63) (.const (.bool false)), none⟩,
 ⟨(some 4), .assign (.tmp 64), none⟩] 0)
 (.ret)) :: k) st Q := Iff.rfl
set_option maxHeartbeats 8000000 in
theorem sent_pass {H : Heap} {xb : Nat} {c h o s y l : Int} {d : Dr} {bl : Nat} {L : Nat → Ln} {n : Nat} {nv : A} {net : List Mg} (S : Scn H xb c h o s y l d bl L n nv net) (hn : net.length ≤ 100) {pb cb : Nat} {q a : Int} (hp : H[pb]? = some (some ⟨111, [.ptr xb 0], true⟩)) (hc : H[cb]? = some (some ⟨5, [i8 a], true⟩)) {dst : Option Nat} {ms : List MOp} {e : Env} {k : List It} {Q : Ex → St → Prop}
    (hK : ∀ G, Ext H G → OpsK Cx 0 ms ⟨put e dst (i64 (cntM (pSk q a) net)), G⟩ k Q) : PassK Cx 129 [i8 q, .ptr pb 0, .ptr cb 0] dst ms ⟨e, H⟩ k Q := by
  have lp := ap_low hp
  have hE : Ext H (H ++ [some ⟨5, [i8 q], true⟩]) := (Ext.refl H).app _
  rw [passK_in CxB129 CxP129]
  simp (disch := omega) only [go_sem, hp, lp, simprocAttr]
  refine pcount_pass (S.ext hE) hn (gets_test (ap_get0 ..) (hE.get hc)) (fun G hG => ?_)
  simp (disch := omega) only [go_sem, simprocAttr]
  exact hK G (hE.trans hG)
set_option maxHeartbeats 16000000 in
theorem gets_end {H : Heap} {xb : Nat} {c h o s y l : Int} {d : Dr} {bl : Nat} {L : Nat → Ln} {n : Nat} {nv : A} {net : List Mg} (S : Scn H xb c h o s y l d bl L n nv net) (hn : net.length ≤ 100) {pb cb : Nat} {a : Int} (hp : H[pb]? = some (some ⟨111, [.ptr xb 0], true⟩)) (hc : H[cb]? = some (some ⟨5, [i8 a], true⟩)) (gs gm : Bool) {dst : Option Nat} {ms : List MOp} {e : Env} {k : List It} {Q : Ex → St → Prop}
    (hK : ∀ G, Ext H G → OpsK Cx 0 ms ⟨put e dst (bo (decide ((cntM (pSk 1 a) net : Int) = b2i gs) && decide ((cntM (pSk 2 a) net : Int) = b2i gm))), G⟩ k Q) :
    RunK Cx [.code r101_5] ⟨[(5, .clo 129 [] [.ptr pb 0, .ptr cb 0]), (7, bo gs), (8, bo gm)], H⟩ (RetK Cx [.tmp 4] dst ms e k Q) := by
  have hb1 := bit_ev gs
  have hb2 := bit_ev gm
  generalize b2i gs = v1 at *
  generalize b2i gm = v2 at *
  simp (disch := omega) only [go_sem, v101_5, simprocAttr, passK_shut CxP103, QK.use hb1, QK.use hb2]
  refine sent_pass S hn hp hc (fun G hG => ?_)
  by_cases q1 : (cntM (pSk 1 a) net : Int) = v1
  · rw [decide_eq_true q1] at hK
    simp (disch := omega) only [go_sem, v101_5, simprocAttr, passK_shut CxP103, QK.use hb1, QK.use hb2]
    refine sent_pass (S.ext hG) hn (hG.get hp) (hG.get hc) (fun G' hG' => ?_)
    have := hK G' (hG.trans hG')
    by_cases q2 : (cntM (pSk 2 a) net : Int) = v2
    · rw [decide_eq_true q2] at this
      simp (disch := omega) only [go_sem, v101_5, simprocAttr, passK_shut CxP103, QK.use hb1, QK.use hb2]
      exact this
    · rw [decide_eq_false q2] at this
      simp (disch := omega) only [go_sem, v101_5, simprocAttr, passK_shut CxP103, QK.use hb1, QK.use hb2]
      exact this
  · have := hK G hG
    rw [decide_eq_false q1] at this
    simp (disch := omega) only [go_sem, v101_5, simprocAttr, passK_shut CxP103, QK.use hb1, QK.use hb2]
    exact this
set_option maxHeartbeats 16000000 in
theorem gets_mid {H : Heap} {xb : Nat} {c h o s y l : Int} {d : Dr} {bl : Nat} {L : Nat → Ln} {n : Nat} {nv : A} {net : List Mg} (S : Scn H xb c h o s y l d bl L n nv net) (hn : net.length ≤ 100) {pb cb : Nat} {i : Nat} (hi : i < n) (h4 : n ≤ 4) (hp : H[pb]? = some (some ⟨111, [.ptr xb 0], true⟩)) (hc : H[cb]? = some (some ⟨5, [i8 i], true⟩)) (b : Bool) {dst : Option Nat} {ms : List MOp} {e : Env} {k : List It} {Q : Ex → St → Prop}
    (hK : ∀ G, Ext H G → OpsK Cx 0 ms ⟨put e dst (bo (!(decide ((L i).state = 9) && !b) && (decide ((cntM (pSk 1 i) net : Int) = b2i (decide ((L i).state = 5) && !b)) && decide ((cntM (pSk 2 i) net : Int) = b2i (decide ((L i).state = 6 ∨ (L i).state = 7 ∨ (L i).state = 8) && !b))))), G⟩ k Q) :
    RunK Cx [.code r101_3] ⟨[(2, .ptr pb 0), (3, .ptr cb 0), (5, .clo 129 [] [.ptr pb 0, .ptr cb 0]), (6, bo b)], H⟩ (RetK Cx [.tmp 4] dst ms e k Q) := by
  have gx := S.x
  have gl := S.ls
  have gp := hp
  have gc := hc
  have hlen := encS_len L n
  obtain ⟨tl, hd0⟩ := encS_get L hi
  have hd : List.drop (i * 8 + 1) (encS L n) = [i8 (L i).state, .v (.int .i8 (L i).need), bo (L i).has, i8 (L i).d0, i8 (L i).d1, i8 (L i).d2, i8 (L i).d3] ++ tl := by rw [← List.drop_drop, hd0]; rfl
  generalize L i = X at *
  by_cases q5 : X.state = 5
  · have e1 : decide (X.state = 9) = false := decide_eq_false (by omega)
    have e2 : decide (X.state = 6 ∨ X.state = 7 ∨ X.state = 8) = false := decide_eq_false (by omega)
    simp only [e1, e2, decide_eq_true q5, Bool.false_and, Bool.true_and, Bool.not_false] at hK
    (simp (disch := omega) only [go_sem, v101_3, gp, gc, gx, gl, hd, hi, hlen, simprocAttr])
    (rw [head_norm (l := [5, 7, 8]) _ _ rfl]; simp (disch := omega) only [go_sem, simprocAttr])
    exact gets_end S hn hp hc (!b) false hK
  by_cases q6 : X.state = 6
  · have e1 : decide (X.state = 9) = false := decide_eq_false (by omega)
    have e2 : decide (X.state = 6 ∨ X.state = 7 ∨ X.state = 8) = true := decide_eq_true (by omega)
    simp only [e1, e2, decide_eq_false q5, Bool.false_and, Bool.true_and, Bool.not_false] at hK
    (simp (disch := omega) only [go_sem, v101_3, gp, gc, gx, gl, hd, hi, hlen, simprocAttr])
    (rw [head_norm (l := [5, 7, 8]) _ _ rfl]; simp (disch := omega) only [go_sem, simprocAttr])
    exact gets_end S hn hp hc false (!b) hK
  by_cases q7 : X.state = 7
  · have e1 : decide (X.state = 9) = false := decide_eq_false (by omega)
    have e2 : decide (X.state = 6 ∨ X.state = 7 ∨ X.state = 8) = true := decide_eq_true (by omega)
    simp only [e1, e2, decide_eq_false q5, Bool.false_and, Bool.true_and, Bool.not_false] at hK
    (simp (disch := omega) only [go_sem, v101_3, gp, gc, gx, gl, hd, hi, hlen, simprocAttr])
    (rw [head_norm (l := [5, 7, 8]) _ _ rfl]; simp (disch := omega) only [go_sem, simprocAttr])
    exact gets_end S hn hp hc false (!b) hK
  by_cases q8 : X.state = 8
  · have e1 : decide (X.state = 9) = false := decide_eq_false (by omega)
    have e2 : decide (X.state = 6 ∨ X.state = 7 ∨ X.state = 8) = true := decide_eq_true (by omega)
    simp only [e1, e2, decide_eq_false q5, Bool.false_and, Bool.true_and, Bool.not_false] at hK
    (simp (disch := omega) only [go_sem, v101_3, gp, gc, gx, gl, hd, hi, hlen, simprocAttr])
    (rw [head_norm (l := [5, 7, 8]) _ _ rfl]; simp (disch := omega) only [go_sem, simprocAttr])
    exact gets_end S hn hp hc false (!b) hK
  have e2 : decide (X.state = 6 ∨ X.state = 7 ∨ X.state = 8) = false := decide_eq_false (by omega)
  by_cases q9 : X.state = 9
  · simp only [e2, decide_eq_true q9, decide_eq_false q5, Bool.false_and, Bool.true_and] at hK
    cases b
    · have := hK H (Ext.refl H)
      simp only [Bool.not_false, Bool.not_true, Bool.false_and] at this
      (simp (disch := omega) only [go_sem, v101_3, gp, gc, gx, gl, hd, hi, hlen, simprocAttr])
      exact this
    · simp only [Bool.not_false, Bool.not_true, Bool.true_and] at hK
      (simp (disch := omega) only [go_sem, v101_3, gp, gc, gx, gl, hd, hi, hlen, simprocAttr])
      (rw [head_norm (l := [5, 7, 8]) _ _ rfl]; simp (disch := omega) only [go_sem, simprocAttr])
      exact gets_end S hn hp hc false false hK
  · simp only [e2, decide_eq_false q9, decide_eq_false q5, Bool.false_and, Bool.true_and, Bool.not_false] at hK
    (simp (disch := omega) only [go_sem, v101_3, gp, gc, gx, gl, hd, hi, hlen, simprocAttr])
    (rw [head_norm (l := [5, 7, 8]) _ _ rfl]; simp (disch := omega) only [go_sem, simprocAttr])
    exact gets_end S hn hp hc false false hK
end Go.Proofs.YtnhknhniemfnjaaGreatDoor.Ev
namespace Go.Proofs.YtnhknhniemfnjaaGreatDoor.Ev
open Go Go.RowKit
set_option maxRecDepth 100000
theorem and1 : ∀ w : Nat, w < 256 → (IntKind.u8.wrap ((BitVec.ofInt IntKind.u8.bits (w : Int) &&& BitVec.ofInt IntKind.u8.bits 1).toNat : Int) != 0) = decide ((w : Int) % 2 = 1) := by decide +kernel
theorem and2 : ∀ w : Nat, w < 4 → (IntKind.u8.wrap ((BitVec.ofInt IntKind.u8.bits (w : Int) &&& BitVec.ofInt IntKind.u8.bits 2).toNat : Int) != 0) = decide ((w : Int) / 2 = 1) := by decide +kernel
set_option maxHeartbeats 16000000 in
theorem gets_pass {H : Heap} {xb : Nat} {c h o s y l : Int} {d : Dr} {bl : Nat} {L : Nat → Ln} {n : Nat} {nv : A} {net : List Mg} (S : Scn H xb c h o s y l d bl L n nv net) (hn : net.length ≤ 100) (dk : d.Ok) (h4 : n ≤ 4) {i : Nat} (hi : i < n) {dst : Option Nat} {ms : List MOp} {e : Env} {k : List It} {Q : Ex → St → Prop}
    (hK : ∀ G, Ext H G → OpsK Cx 0 ms ⟨put e dst (bo (pgetB d (L i) net i)), G⟩ k Q) : PassK Cx 101 [.ptr xb 0, i8 i] dst ms ⟨e, H⟩ k Q := by
  have hx := S.x
  have lx := ap_low hx
  have hE : Ext H (H ++ [some ⟨111, [.ptr xb 0], true⟩, some ⟨5, [i8 i], true⟩]) := (Ext.refl H).app _
  have hp : (H ++ ([some ⟨111, [.ptr xb 0], true⟩, some ⟨5, [i8 i], true⟩] : Heap))[H.length]? = some (some ⟨111, [.ptr xb 0], true⟩) := ap_get0 ..
  have hc : (H ++ ([some ⟨111, [.ptr xb 0], true⟩, some ⟨5, [i8 i], true⟩] : Heap))[H.length + 1]? = some (some ⟨5, [i8 i], true⟩) := by rw [ap_getk']; rfl
  have mid : ∀ (b : Bool) (G : Heap), Ext (H ++ [some ⟨111, [.ptr xb 0], true⟩, some ⟨5, [i8 i], true⟩]) G → b = pbusy d net i → RunK Cx [.code r101_3] ⟨[(2, .ptr H.length 0), (3, .ptr (H.length + 1) 0), (5, .clo 129 [] [.ptr H.length 0, .ptr (H.length + 1) 0]), (6, bo b)], G⟩ (RetK Cx [.tmp 4] dst ms e k Q) := fun b G hG hb => by
    refine gets_mid ((S.ext hE).ext hG) hn hi h4 (hG.get hp) (hG.get hc) b (fun G' hG' => ?_)
    have := hK G' (hE.trans (hG.trans hG'))
    unfold pgetB at this
    rw [← hb] at this
    exact this
  obtain ⟨w, hwn⟩ : ∃ w : Nat, d.wait = w := ⟨d.wait.toNat, by have := dk.wait; omega⟩
  have hw := and1 w (by have := dk.wait; omega)
  have eb : pbusy d net i = (decide (d.wait % 2 = 1) && (decide (d.asker = i) && decide (cntM (pSk 4 i) net = 0))) := rfl
  rw [eb] at mid
  rw [← hwn] at hw
  simp (disch := omega) only [go_sem, simprocAttr] at hw
  obtain ⟨a5, a6⟩ := dk.asker
  clear hK eb
  rw [passK_in CxB101 CxP101]
  by_cases q1 : d.wait % 2 = 1
  case neg =>
    rw [decide_eq_false q1] at hw mid
    have := mid false _ (Ext.refl _) rfl
    simp (disch := omega) only [go_sem, v101_0, hx, lx, hw, List.append_assoc, List.length_append, simprocAttr]
    (rw [head_norm (l := [2, 3, 5, 6]) _ _ rfl]; simp (disch := omega) only [go_sem, simprocAttr])
    exact this
  rw [decide_eq_true q1] at hw mid
  by_cases q2 : d.asker = i
  case neg =>
    rw [decide_eq_false q2] at mid
    have := mid false _ (Ext.refl _) rfl
    simp (disch := omega) only [go_sem, v101_0, hx, lx, hw, List.append_assoc, List.length_append, simprocAttr]
    (rw [head_norm (l := [2, 3, 5, 6]) _ _ rfl]; simp (disch := omega) only [go_sem, simprocAttr])
    exact this
  rw [decide_eq_true q2] at mid
  simp (disch := omega) only [go_sem, v101_0, hx, lx, hw, List.append_assoc, List.length_append, simprocAttr]
  refine sent_pass (S.ext hE) hn hp hc (fun G hG => ?_)
  by_cases q3 : cntM (pSk 4 i) net = 0
  · rw [decide_eq_true q3] at mid
    have := mid true G hG rfl
    simp (disch := omega) only [go_sem, q3, Int.natCast_zero, simprocAttr]
    (rw [head_norm (l := [2, 3, 5, 6]) _ _ rfl]; simp (disch := omega) only [go_sem, simprocAttr])
    exact this
  · rw [decide_eq_false q3] at mid
    have := mid false G hG rfl
    simp (disch := omega) only [go_sem, simprocAttr]
    (rw [head_norm (l := [2, 3, 5, 6]) _ _ rfl]; simp (disch := omega) only [go_sem, simprocAttr])
    exact this
set_option maxHeartbeats 16000000 in
theorem ppair_loop {H : Heap} {xb : Nat} {c h o s y l : Int} {d : Dr} {bl : Nat} {L : Nat → Ln} {n : Nat} {nv : A} {net : List Mg} (S : Scn H xb c h o s y l d bl L n nv net) (hn : net.length ≤ 100) (hok : ∀ m ∈ net, m.Ok) (dk : d.Ok) (h4 : n ≤ 4) {KK : List It} {Q : Ex → St → Prop}
    (hN : allN (ppB d L net) 0 n = false → ∀ G, Ext H G → UnwK Cx .back KK ⟨[(2, bo false)], G⟩ Q)
    (hT : allN (ppB d L net) 0 n = true → ∀ G, Ext H G → UnwK Cx (.out 0) KK ⟨[(14, bo false), (0, .ptr xb 0), (12, i64 n), (13, i64 n)], G⟩ Q) :
    ∀ (e i : Nat) (G : Heap), i + e = n → allN (ppB d L net) 0 n = allN (ppB d L net) i e → Ext H G → RunK Cx (.code (.loop m69_l0) :: KK) ⟨[(0, .ptr xb 0), (12, i64 n), (13, i64 i)], G⟩ Q := by
  intro e
  induction e with
  | zero =>
    intro i G hi hq hE
    obtain rfl : i = n := by omega
    rw [runK_loop]
    simp (disch := omega) only [go_sem, Int.lt_irrefl, simprocAttr]
    exact hT hq G hE
  | succ e ih =>
    intro i G hi hq hE
    have hin : i < n := by omega
    have ih := ih (i + 1)
    simp only [Int.natCast_add, Int.natCast_one] at ih
    simp only [allN] at hq
    have eb : ppB d L net i = (packB (L i) net i && (pputB (L i) net i && pgetB d (L i) net i)) := rfl
    rw [eb] at hq
    rw [runK_loop]
    simp (disch := omega) only [go_sem, hin, simprocAttr]
    refine acks_pass (S.ext hE) hn hok h4 hin (fun G1 h1 => ?_)
    have hE1 := hE.trans h1
    cases b1 : packB (L i) net i
    · rw [b1] at hq
      simp (disch := omega) only [go_sem, hin, simprocAttr]
      exact hN hq _ hE1
    simp (disch := omega) only [go_sem, hin, simprocAttr]
    refine puts_pass (S.ext hE1) hn h4 hin (fun G2 h2 => ?_)
    have hE2 := hE1.trans h2
    cases b2 : pputB (L i) net i
    · rw [b1, b2] at hq
      simp (disch := omega) only [go_sem, hin, simprocAttr]
      exact hN hq _ hE2
    simp (disch := omega) only [go_sem, hin, simprocAttr]
    refine gets_pass (S.ext hE2) hn dk h4 hin (fun G3 h3 => ?_)
    have hE3 := hE2.trans h3
    cases b3 : pgetB d (L i) net i
    · rw [b1, b2, b3] at hq
      simp (disch := omega) only [go_sem, hin, simprocAttr]
      exact hN hq _ hE3
    rw [b1, b2, b3] at hq
    simp (disch := omega) only [go_sem, hin, simprocAttr]
    rw [loop_norm (l := [0, 12, 13]) rfl]
    simp (disch := omega) only [go_sem, simprocAttr]
    exact ih G3 (by omega) hq hE3
set_option maxHeartbeats 16000000 in
theorem pheld_loop {H : Heap} {xb bl : Nat} {L : Nat → Ln} {n : Nat} (hn : n ≤ 4) (hb : H[bl]? = some (some ⟨83, encS L n, false⟩)) {KK : List It} {Q : Ex → St → Prop}
    (hT : ∀ G, Ext H G → UnwK Cx (.out 2) KK ⟨[(42, bo false), (0, .ptr xb 0), (4, i64 (hasN L n)), (39, .ref bl 0 n 8), (40, i64 n), (41, i64 n)], G⟩ Q) :
    ∀ (e i : Nat) (G : Heap), i + e = n → Ext H G → RunK Cx (.code (.loop m69_l1) :: KK) ⟨[(0, .ptr xb 0), (4, i64 (hasN L i)), (39, .ref bl 0 n 8), (40, i64 n), (41, i64 i)], G⟩ Q := by
  intro e
  induction e with
  | zero =>
    intro i G hi hE
    obtain rfl : i = n := by omega
    rw [runK_loop]
    simp (disch := omega) only [go_sem, Int.lt_irrefl, simprocAttr]
    exact hT G hE
  | succ e ih =>
    intro i G hi hE
    have hin : i < n := by omega
    have g0 := hE.get hb
    have l0 := ap_low g0
    have hlen := encS_len L n
    obtain ⟨tl, hd⟩ := encS_get L hin
    obtain ⟨q1, q2⟩ := hasN_le L i
    have := fun T => ih (i + 1) (G ++ T) (by omega) (hE.app T)
    have e1 : hasN L (i + 1) = hasN L i + b2i (L i).has := rfl
    rw [e1] at this
    clear e1 ih
    generalize hasN L i = v at *
    simp only [Int.natCast_add, Int.natCast_one] at this
    generalize hX : L i = X at *
    obtain ⟨f1, f2, f3, b, f4, f5, f6, f7⟩ := X
    rw [runK_loop]
    cases b
    · simp only [b2i, Bool.false_eq_true, if_false, Int.add_zero] at this
      simp (disch := omega) only [go_sem, g0, l0, hd, hin, hlen, simprocAttr]
      rw [loop_norm (l := [0, 4, 39, 40, 41]) rfl]
      simp (disch := omega) only [go_sem, simprocAttr]
      exact this _
    · simp only [b2i, if_true] at this
      simp (disch := omega) only [go_sem, g0, l0, hd, hin, hlen, simprocAttr]
      rw [loop_norm (l := [0, 4, 39, 40, 41]) rfl]
      simp (disch := omega) only [go_sem, simprocAttr]
      exact this _
set_option maxHeartbeats 16000000 in
theorem ppaired_pass {H : Heap} {xb : Nat} {c h o s y l : Int} {d : Dr} {bl : Nat} {L : Nat → Ln} {n : Nat} {nv : A} {net : List Mg} (S : Scn H xb c h o s y l d bl L n nv net) (hn : net.length ≤ 100) (hok : ∀ m ∈ net, m.Ok) (dk : d.Ok) (hw3 : d.wait ≤ 3) (h4 : n ≤ 4) {dst : Option Nat} {ms : List MOp} {e : Env} {k : List It} {Q : Ex → St → Prop}
    (hK : ∀ G, Ext H G → OpsK Cx 0 ms ⟨put e dst (bo (ppairedL d L net n)), G⟩ k Q) : PassK Cx 69 [.ptr xb 0] dst ms ⟨e, H⟩ k Q := by
  have hx := S.x
  have lx := ap_low hx
  unfold ppairedL at hK
  rw [passK_in CxB69 CxP69]
  simp (disch := omega) only [go_sem, hx, simprocAttr]
  rw [loop_norm (l := [0, 12, 13]) rfl]
  simp (disch := omega) only [go_sem, simprocAttr]
  refine ppair_loop S hn hok dk h4 (fun q G hG => ?_) (fun q G hG => ?_) n 0 H (by omega) rfl (Ext.refl H)
  · have := hK G hG
    rw [q, Bool.false_and] at this
    simp (disch := omega) only [go_sem, simprocAttr]
    exact this
  rw [q] at hK
  simp only [Bool.true_and] at hK
  have gx := hG.get hx
  simp (disch := omega) only [go_sem, gx, simprocAttr]
  rw [loop_norm (l := [0, 4, 39, 40, 41]) rfl]
  simp (disch := omega) only [go_sem, simprocAttr]
  refine pheld_loop h4 (hG.get S.ls) (fun G1 h1 => ?_) n 0 G (by omega) (Ext.refl G)
  have hE1 := hG.trans h1
  clear gx q
  have gx := hE1.get hx
  have lgx := ap_low gx
  have hm5 : 5 ≤ maxLen := by decide
  have hm2 : 2 ≤ maxLen := by decide
  have hm1 : 1 ≤ maxLen := by decide
  simp (disch := omega) only [go_sem, gx, lgx, hm5, simprocAttr]
  refine kinds_pass (S.ext (hE1.app _)) hn (ks := [6, 7, 10, 11, 4]) (by decide) (ap_get0 ..) (fun G2 h2 => ?_)
  have hE2 := (hE1.app _).trans h2
  clear gx lgx
  have gx := hE2.get hx
  have lgx := ap_low gx
  have z1 := cntM_le (pK [6, 7, 10, 11, 4]) net
  obtain ⟨z2, z3⟩ := hasN_le L n
  obtain ⟨w, hwn⟩ : ∃ w : Nat, d.wait = w := ⟨d.wait.toNat, by have := dk.wait; omega⟩
  have hw1 := and1 w (by omega)
  have hw2 := and2 w (by omega)
  rw [← hwn] at hw1 hw2
  simp (disch := omega) only [go_sem, simprocAttr] at hw1 hw2
  have hbit := bit_ev (decide (d.wait % 2 = 1))
  unfold ppEnd at hK
  generalize b2i (decide (d.wait % 2 = 1)) = v1 at *
  generalize cntM (pK [6, 7, 10, 11, 4]) net = v2 at *
  generalize hasN L n = v3 at *
  generalize decide (d.wait % 2 = 1) = v4 at *
  by_cases q1 : (v2 : Int) + v3 = v1
  case neg =>
    have := hK G2 hE2
    rw [decide_eq_false q1, Bool.false_and] at this
    simp (disch := omega) only [go_sem, gx, lgx, hw1, hw2, simprocAttr, passK_shut CxP103, QK.use hbit]
    exact this
  rw [decide_eq_true q1] at hK
  simp only [Bool.true_and] at hK
  by_cases q2 : d.wait / 2 = 1
  · rw [decide_eq_true q2] at hw2
    rw [if_pos q2] at hK
    simp (disch := omega) only [go_sem, gx, lgx, hw1, hw2, hm2, simprocAttr, passK_shut CxP103, QK.use hbit]
    refine kinds_pass (S.ext (hE2.app _)) hn (ks := [6, 5]) (by decide) (ap_get0 ..) (fun G3 h3 => ?_)
    have := hK G3 ((hE2.app _).trans h3)
    by_cases q3 : (cntM (pK [6, 5]) net : Int) = 1
    · rw [decide_eq_true q3] at this
      simp (disch := omega) only [go_sem, simprocAttr]
      exact this
    · rw [decide_eq_false q3] at this
      simp (disch := omega) only [go_sem, simprocAttr]
      exact this
  · rw [decide_eq_false q2] at hw2
    rw [if_neg q2] at hK
    simp (disch := omega) only [go_sem, gx, lgx, hw1, hw2, hm1, simprocAttr, passK_shut CxP103, QK.use hbit]
    refine kinds_pass (S.ext (hE2.app _)) hn (ks := [5]) (by decide) (ap_get0 ..) (fun G3 h3 => ?_)
    have := hK G3 ((hE2.app _).trans h3)
    by_cases q3 : (cntM (pK [5]) net : Int) = 0
    · rw [decide_eq_true q3] at this
      simp (disch := omega) only [go_sem, simprocAttr]
      exact this
    · rw [decide_eq_false q3] at this
      simp (disch := omega) only [go_sem, simprocAttr]
      exact this
end Go.Proofs.YtnhknhniemfnjaaGreatDoor.Ev
