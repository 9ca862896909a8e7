/- The reference's Atomic: what it gives. -/
import Derived.Test.YtnhknhniemfnjaaGreatDoorF6
set_option linter.unusedSimpArgs false
set_option linter.unusedVariables false
namespace Go.Proofs.YtnhknhniemfnjaaGreatDoor.Ev
open Go Go.RowKit
set_option maxRecDepth 100000
/-- What the locations hold after these. -/
def memA (m : Int → Int) : List Pf → (Int → Int)
  | [] => m
  | p :: l => memA (setM m p.loc p.new) l
theorem memA_snoc : ∀ (l : List Pf) (m : Int → Int) (p : Pf), memA m (l ++ [p]) = setM (memA m l) p.loc p.new
  | [], _, _ => rfl
  | q :: l, m, p => by simp only [List.cons_append, memA, memA_snoc l]
set_option maxHeartbeats 8000000 in
theorem inner7 {full pre tl : List Pf} (hf : full = pre ++ tl) (m : Int → Int) {p : Pf} {b : Nat} {H : Heap} (hb : H[b]? = some (some ⟨52, encP p, true⟩)) (hn : full.length ≤ 4611686018427387904) {KK : List It} {Q : Ex → St → Prop}
    (hexit : UnwK Cx (.out 2) KK ⟨[(39, bo false), (38, i64 pre.length), (37, i64 pre.length), (1, .sl full.length (encL full)), (2, .ptr 0 0), (5, i64 pre.length), (6, .ptr b 0), (7, i8 (memA m pre p.loc)), (8, i64 pre.length)], H⟩ Q) :
    ∀ (rest done : List Pf), done ++ rest = pre → RunK Cx (.code (.loop m7_l1) :: KK) ⟨[(1, .sl full.length (encL full)), (2, .ptr 0 0), (5, i64 pre.length), (6, .ptr b 0), (7, i8 (memA m done p.loc)), (8, i64 done.length)], H⟩ Q := by
  intro rest
  induction rest with
  | nil =>
    intro done hd
    rw [List.append_nil] at hd
    subst hd
    rw [runK_loop]
    simp (config := { maxSteps := 10000000 }) (disch := omega) only [i64, i8, u7_l1, Int.lt_irrefl, unwK_code, unwK_lp, runK_exit, runK_seq, runK_cond, condK_known, runK_reg, opsK_nil, opsK_cons, wantK_yes, wants, anyK_quiet, isLoud, quietK_some, calls, opnd, look_cons, keepE, put, quietOp, binV, cond_false, eq_self, ↓reduceIte, Nat.reduceEqDiff, decide_false]
    exact hexit
  | cons q rest ih =>
    intro done hd
    have hlen : pre.length = done.length + (rest.length + 1) := by rw [← hd]; simp
    have hfl : full.length = done.length + (rest.length + 1) + tl.length := by rw [hf, List.length_append, hlen]
    have hfd : full = done ++ q :: (rest ++ tl) := by rw [hf, ← hd]; simp
    have hdr : List.drop (done.length * 7) (encL full) = encP q ++ encL (rest ++ tl) := by rw [hfd]; exact encL_drop done (q :: (rest ++ tl))
    have := ih (done ++ [q]) (by rw [← hd]; simp)
    rw [memA_snoc] at this
    simp only [List.length_append, List.length_cons, List.length_nil, Nat.zero_add, Int.natCast_add, Int.natCast_one] at this
    rw [runK_loop]
    by_cases hq : q.loc = p.loc
    · have hs : setM (memA m done) q.loc q.new p.loc = q.new := by simp [setM, hq]
      rw [hs] at this
      simp (config := { maxSteps := 10000000 }) (disch := omega) only [i64, i8, encP, u7_l1, hb, hdr, hq, runK_blk, runK_lp, runK_skip, runK_seq, runK_block, runK_cond, condK_known, runK_reg, opsK_nil, opsK_cons, wantK_yes, wantK_free, wants, anyK_quiet, freeK_quiet, isLoud, isLit, beq_self_eq_true, quietK_some, calls, opnd, ofV, look_cons, keepE, put, quietOp, readL, partA, binV, K.agg, cond_true, List.getElem?_cons_zero, List.getElem?_cons_succ, List.length_cons, List.length_nil, List.drop_zero, List.drop_succ_cons, List.cons_append, List.nil_append, Option.bind_some, Nat.zero_add, eq_self, reduceCtorEq, ↓reduceIte, Nat.reduceEqDiff, Nat.reduceAdd, Nat.reduceSub, Nat.reduceLeDiff, Nat.reduceLT, Int.toNat_natCast, ite_yes, dec_yes, wrap_i64, CxT5, ty5, CxT45, ty45, CxT50, ty50, CxT52, ty52]
      rw [loop_norm (l := [1, 2, 5, 6, 7, 8]) rfl]
      simp (config := { maxSteps := 10000000 }) (disch := omega) only [look_cons, keepE, eq_self, ↓reduceIte, Nat.reduceEqDiff]
      simpa only [i64, i8] using this
    · have hs : setM (memA m done) q.loc q.new p.loc = memA m done p.loc := by
        simp only [setM]
        rw [if_neg fun h => hq h.symm]
      rw [hs] at this
      simp (config := { maxSteps := 10000000 }) (disch := omega) only [i64, i8, encP, u7_l1, hb, hdr, beq_no hq, runK_blk, runK_lp, runK_skip, runK_seq, runK_block, runK_cond, condK_known, runK_reg, opsK_nil, opsK_cons, wantK_yes, wantK_free, wants, anyK_quiet, freeK_quiet, isLoud, isLit, quietK_some, calls, opnd, ofV, look_cons, keepE, put, quietOp, readL, partA, binV, K.agg, cond_true, cond_false, List.getElem?_cons_zero, List.getElem?_cons_succ, List.length_cons, List.length_nil, List.drop_zero, List.drop_succ_cons, List.cons_append, List.nil_append, Option.bind_some, Nat.zero_add, eq_self, reduceCtorEq, ↓reduceIte, Nat.reduceEqDiff, Nat.reduceAdd, Nat.reduceSub, Nat.reduceLeDiff, Nat.reduceLT, Int.toNat_natCast, ite_yes, dec_yes, wrap_i64, CxT5, ty5, CxT45, ty45, CxT50, ty50, CxT52, ty52]
      rw [loop_norm (l := [1, 2, 5, 6, 7, 8]) rfl]
      simp (config := { maxSteps := 10000000 }) (disch := omega) only [look_cons, keepE, eq_self, ↓reduceIte, Nat.reduceEqDiff]
      simpa only [i64, i8] using this
def rest7 : M := .seq (.reg [1, 2, 5, 6, 7] [⟨(some 57), .fieldAddr 52 (.tmp 6) 1, none⟩,
       ⟨(some 58), .fieldAddr 50 (.tmp 57) 0, none⟩,
       ⟨(some 59), .load 5 (.tmp 58), none⟩,
       ⟨(some 9), .assign (.tmp 59), none⟩] 0)
     (.seq (.reg [1, 2, 5, 6, 7, 9] [⟨(some 60), .fieldAddr 52 (.tmp 6) 0, none⟩,
       ⟨(some 61), .load 5 (.tmp 60), none⟩,
       ⟨(some 62), .convert 5 3 (.tmp 61), none⟩,
       ⟨(some 63), .fieldAddr 44 (.tmp 2) 1, none⟩,
       ⟨(some 64), .fieldAddr 31 (.tmp 63) 0, none⟩,
       ⟨(some 65), .load 3 (.tmp 64), none⟩,
       ⟨(some 66), .binOp .geq 3 (.tmp 62) (.tmp 65) 3, none⟩,
       ⟨(some 67), .move (.tmp 66), none⟩,
       ⟨(some 68), .move (.tmp 9), (some (67, false))⟩,
       ⟨(some 69), .binOp .eql 5 (.tmp 68) (.const (.int .u8 1)) 5, (some (67, false))⟩,
       ⟨(some 70), .move (.tmp 69), (some (67, false))⟩,
       ⟨(some 71), .move (.tmp 9), (some (70, false))⟩,
       ⟨(some 72), .binOp .eql 5 (.tmp 71) (.const (.int .u8 2)) 5, (some (70, false))⟩,
       ⟨(some 73), .pick (.tmp 70) (.const (.bool true)) (.tmp 72), (some (67, false))⟩,
       ⟨(some 74), .move (.tmp 73), (some (67, false))⟩,
       ⟨(some 75), .move (.tmp 9), (some (74, false))⟩,
       ⟨(some 76), .binOp .eql 5 (.tmp 75) (.const (.int .u8 4)) 5, (some (74, false))⟩,
       ⟨(some 77), .pick (.tmp 74) (.const (.bool true)) (.tmp 76), (some (67, false))⟩,
       ⟨(some 78), .move (.tmp 77), (some (67, false))⟩,
       ⟨(some 79), .move (.tmp 9), (some (78, false))⟩,
       ⟨(some 80), .binOp .eql 5 (.tmp 79) (.const (.int .u8 5)) 5, (some (78, false))⟩,
       ⟨(some 81), .pick (.tmp 78) (.const (.bool true)) (.tmp 80), (some (67, false))⟩,
       ⟨(some 82), .move (.tmp 81), (some (67, false))⟩,
       ⟨(some 83), .move (.tmp 9), (some (82, false))⟩,
       ⟨(some 84), .binOp .eql 5 (.tmp 83) (.const (.int .u8 6)) 5, (some (82, false))⟩,
       ⟨(some 85), .pick (.tmp 82) (.const (.bool true)) (.tmp 84), (some (67, false))⟩,
       ⟨(some 86), .unOp .not 4 (.tmp 85), (some (67, false))⟩,
       ⟨(some 87), .pick (.tmp 67) (.const (.bool true)) (.tmp 86), none⟩,
       ⟨(some 88), .move (.tmp 87), none⟩,
       ⟨(some 89), .fieldAddr 52 (.tmp 6) 1, (some (88, false))⟩,
       ⟨(some 90), .fieldAddr 50 (.tmp 89) 1, (some (88, false))⟩,
       ⟨(some 91), .load 5 (.tmp 90), (some (88, false))⟩,
       ⟨(some 92), .binOp .gtr 5 (.tmp 91) (.const (.int .u8 5)) 5, (some (88, false))⟩,
       ⟨(some 93), .pick (.tmp 88) (.const (.bool true)) (.tmp 92), none⟩,
       ⟨(some 94), .move (.tmp 93), none⟩,
       ⟨(some 95), .fieldAddr 52 (.tmp 6) 2, (some (94, false))⟩,
       ⟨(some 96), .load 5 (.tmp 95), (some (94, false))⟩,
       ⟨(some 97), .move (.tmp 7), (some (94, false))⟩,
       ⟨(some 98), .binOp .neq 5 (.tmp 96) (.tmp 97) 5, (some (94, false))⟩,
       ⟨(some 99), .pick (.tmp 94) (.const (.bool true)) (.tmp 98), none⟩,
       ⟨(some 100), .move (.tmp 99), none⟩,
       ⟨(some 101), .fieldAddr 52 (.tmp 6) 3, (some (100, false))⟩,
       ⟨(some 102), .load 5 (.tmp 101), (some (100, false))⟩,
       ⟨(some 103), .fieldAddr 52 (.tmp 6) 1, (some (100, false))⟩,
       ⟨(some 104), .load 50 (.tmp 103), (some (100, false))⟩,
       ⟨(some 105), .move (.tmp 7), (some (100, false))⟩,
       ⟨(some 106), .call ⟨.value (.func 19), #[(.tmp 104), (.tmp 105)], #[50, 5]⟩, (some (100, false))⟩,
       ⟨(some 107), .binOp .neq 5 (.tmp 102) (.tmp 106) 5, (some (100, false))⟩,
       ⟨(some 108), .pick (.tmp 100) (.const (.bool true)) (.tmp 107), none⟩] 47)
     (.cond (.tmp 108) (.seq (.reg [] [⟨(some 4), .assign (.const (.bool false)), none⟩] 0)
       (.ret))
       (.skip)))
def inc7 : M := .reg [1, 2, 5] [⟨(some 14), .move (.tmp 5), none⟩,
      ⟨(some 15), .binOp .add 3 (.tmp 14) (.const (.int .i64 1)) 3, none⟩,
      ⟨(some 5), .assign (.tmp 15), none⟩] 0
theorem v7_l0 {C : Ctx} {k : List It} {st : St} {Q : Ex → St → Prop} : RunK C (.code m7_l0 :: k) st Q ↔ RunK C (.code (.seq (.seq (.reg [1, 2, 5] [⟨(some 10), .move (.tmp 5), none⟩,
      ⟨(some 11), .move (.tmp 1), none⟩,
      ⟨(some 12), .call ⟨.builtin .len, #[(.tmp 11)], #[45]⟩, none⟩,
      ⟨(some 13), .binOp .lss 3 (.tmp 10) (.tmp 12) 3, none⟩] 0)
    (.cond (.tmp 13) (.skip)
      (.exit 0))) (.seq (.block 1 (.seq (.reg [1, 2, 5] [⟨(some 16), .move (.tmp 1), none⟩,
       ⟨(some 17), .move (.tmp 5), none⟩,
       ⟨(some 18), .indexAddr 45 (.tmp 16) (.tmp 17), none⟩,
       ⟨(some 19), .load 52 (.tmp 18), none⟩,
       ⟨(some 6), .alloc 52, none⟩,
       ⟨none, .store 52 (.tmp 6) (.tmp 19), none⟩] 0) (.seq (.reg [1, 2, 5, 6] [⟨(some 7), .assign (.const (.int .u8 0)), none⟩] 0) (.seq (.seq (.reg [1, 2, 5, 6, 7] [⟨(some 20), .fieldAddr 52 (.tmp 6) 1, none⟩,
       ⟨(some 21), .fieldAddr 50 (.tmp 20) 1, none⟩,
       ⟨(some 22), .load 5 (.tmp 21), none⟩,
       ⟨(some 23), .convert 5 3 (.tmp 22), none⟩,
       ⟨(some 24), .fieldAddr 44 (.tmp 2) 0, none⟩,
       ⟨(some 25), .fieldAddr 29 (.tmp 24) 2, none⟩,
       ⟨(some 26), .load 23 (.tmp 25), none⟩,
       ⟨(some 27), .call ⟨.builtin .len, #[(.tmp 26)], #[23]⟩, none⟩,
       ⟨(some 28), .binOp .lss 3 (.tmp 23) (.tmp 27) 3, none⟩] 0)
     (.cond (.tmp 28) (.reg [1, 2, 5, 6] [⟨(some 29), .fieldAddr 44 (.tmp 2) 0, none⟩,
         ⟨(some 30), .fieldAddr 29 (.tmp 29) 2, none⟩,
         ⟨(some 31), .load 23 (.tmp 30), none⟩,
         ⟨(some 32), .fieldAddr 52 (.tmp 6) 1, none⟩,
         ⟨(some 33), .fieldAddr 50 (.tmp 32) 1, none⟩,
         ⟨(some 34), .load 5 (.tmp 33), none⟩,
         ⟨(some 35), .indexAddr 23 (.tmp 31) (.tmp 34), none⟩,
         ⟨(some 36), .load 5 (.tmp 35), none⟩,
         ⟨(some 7), .assign (.tmp 36), none⟩] 0)
       (.skip))) (.seq (.seq (.reg [1, 2, 5, 6, 7] [⟨(some 8), .assign (.const (.int .i64 0)), none⟩] 0)
     (.block 2 (.loop (m7_l1)))) rest7))))) inc7)) :: k) st Q := Iff.rfl
theorem init_drop (ini : List Int) {x : Int} (h0 : 0 ≤ x) (h : x < ini.length) : List.drop x.toNat (ini.map i8) = i8 (initM ini x) :: List.drop (x.toNat + 1) (ini.map i8) := by
  have hlt : x.toNat < (ini.map i8).length := by simp; omega
  have hlt' : x.toNat < ini.length := by omega
  rw [List.drop_eq_getElem_cons hlt]
  simp [initM, List.getD_eq_getElem?_getD, List.getElem?_eq_getElem hlt']
theorem init_out (ini : List Int) {x : Int} (h : ¬ x < ini.length) : initM ini x = 0 := by
  have : ini.length ≤ x.toNat := by omega
  simp [initM, List.getD_eq_getElem?_getD, List.getElem?_eq_none this]
set_option maxHeartbeats 16000000 in
theorem loop7 {cs : List A} (hl : cs.length = 585) {g : Int} (hg : cs[10]? = some (i64 g)) {ini : List Int} (hi : cs[2]? = some (.sl ini.length (ini.map i8))) (hin : ini.length ≤ 4611686018427387904) {KK : List It} {Q : Ex → St → Prop} :
    ∀ (suf pre : List Pf) (H : Heap), H[0]? = some (some ⟨44, cs, true⟩) → (∀ p ∈ suf, p.Ok) → (pre ++ suf).length ≤ 4611686018427387904 →
      (atomM g suf (memA (initM ini) pre) = true → ∀ e H', UnwK Cx (.out 0) KK ⟨e, H'⟩ Q) →
      (atomM g suf (memA (initM ini) pre) = false → ∀ H', UnwK Cx .back KK ⟨[(4, bo false)], H'⟩ Q) →
      RunK Cx (.code (.loop m7_l0) :: KK) ⟨[(1, .sl (pre ++ suf).length (encL (pre ++ suf))), (2, .ptr 0 0), (5, i64 pre.length)], H⟩ Q := by
  have hd10 : List.drop 10 cs = A.v (.int .i64 g) :: List.drop 11 cs := by
    obtain ⟨h1, h2⟩ := List.getElem?_eq_some_iff.1 hg
    rw [List.drop_eq_getElem_cons h1, h2]
  have hd2 : List.drop 2 cs = A.sl ini.length (ini.map i8) :: List.drop 3 cs := by
    obtain ⟨k1, k2⟩ := List.getElem?_eq_some_iff.1 hi
    rw [List.drop_eq_getElem_cons k1, k2]
  intro suf
  induction suf with
  | nil =>
    intro pre H h0 _ hn hT _
    rw [runK_loop]
    simp (config := { maxSteps := 10000000 }) (disch := omega) only [i64, u7_l0, List.append_nil, Int.lt_irrefl, unwK_code, unwK_lp, runK_exit, runK_seq, runK_cond, condK_known, runK_reg, opsK_nil, opsK_cons, wantK_yes, wants, anyK_quiet, isLoud, quietK_some, calls, opnd, opnds, look_cons, keepE, put, quietOp, binV, cond_false, List.getElem?_cons_zero, List.getElem?_toArray, List.append_nil, Option.bind_some, eq_self, ↓reduceIte, Nat.reduceEqDiff, decide_false, CxT45, ty45]
    exact hT rfl _ _
  | cons p suf ih =>
    intro pre H h0 hok hn hT hF
    obtain ⟨hc, hk, hlo, ha, hb, ho, hnw⟩ := hok p (.head _)
    have hlen : (pre ++ p :: suf).length = pre.length + (suf.length + 1) := by simp
    have hd : List.drop (pre.length * 7) (encL (pre ++ p :: suf)) = encP p ++ encL suf := encL_drop pre (p :: suf)
    have l0 := ap_low h0
    have hbox := ap_get0 H (some (⟨52, encP p, true⟩ : Blk)) []
    have start : RunK Cx (.code (.loop m7_l1) :: .blk 2 :: .code rest7 :: .blk 1 :: .code inc7 :: .lp m7_l0 :: KK) ⟨[(1, .sl (pre ++ p :: suf).length (encL (pre ++ p :: suf))), (2, .ptr 0 0), (5, i64 pre.length), (6, .ptr H.length 0), (7, i8 (memA (initM ini) [] p.loc)), (8, i64 ([] : List Pf).length)], H ++ [some ⟨52, encP p, true⟩]⟩ Q := by
      refine inner7 (tl := p :: suf) rfl (initM ini) hbox hn ?_ pre [] rfl
      have hstep : ∀ m, atomM g (p :: suf) m = if goodP g p m then atomM g suf (setM m p.loc p.new) else false := fun m => rfl
      rw [hstep] at hT hF
      have hnext := ih (pre ++ [p]) (H ++ [some ⟨52, encP p, true⟩]) (l0 _) (fun q hq => hok q (.tail _ hq)) (by simpa using hn)
      rw [memA_snoc] at hnext
      simp only [List.append_assoc, List.singleton_append, List.length_append, List.length_cons, List.length_nil, Nat.zero_add, Int.natCast_add, Int.natCast_one] at hnext
      by_cases c1 : p.core < g
      case neg =>
        have hF' := hF (if_neg fun h => c1 h.2.1)
        simp (config := { maxSteps := 10000000 }) (disch := omega) only [i64, i8, bo, encP, rest7, inc7, l0, ap_get0, hd10, hlen, unwK_blk, unwK_code, unwK_lp, unwK_ret_blk, runK_ret, runK_seq, runK_cond, condK_known, runK_reg, opsK_nil, opsK_cons, wantK_no, wantK_yes, wantK_free, wants, anyK_quiet, freeK_quiet, isLoud, isLit, undef, beq_false, quietK_some, calls, opnd, ofV, look_cons, keepE, put, quietOp, readL, partA, binV, K.agg, cond_true, List.getElem?_cons_zero, List.getElem?_cons_succ, List.length_cons, List.length_nil, List.drop_zero, List.drop_succ_cons, List.cons_append, List.nil_append, Option.bind_some, Bool.not_true, Nat.zero_add, Nat.add_zero, eq_self, reduceCtorEq, ↓reduceIte, Nat.reduceEqDiff, Nat.reduceAdd, Nat.reduceSub, Nat.reduceLeDiff, Nat.reduceLT, dec_yes, wrap_i64, CxT3, ty3, CxT5, ty5, CxT31, ty31, CxT44, ty44, CxT50, ty50, CxT52, ty52]
        exact hF' _
      by_cases k : goodK p.kind
      case neg =>
        have hF' := hF (if_neg fun h => k h.1)
        have k1 : ¬ p.kind = 1 := fun h => k (.inl h)
        have k2 : ¬ p.kind = 2 := fun h => k (.inr (.inl h))
        have k4 : ¬ p.kind = 4 := fun h => k (.inr (.inr (.inl h)))
        have k5 : ¬ p.kind = 5 := fun h => k (.inr (.inr (.inr (.inl h))))
        have k6 : ¬ p.kind = 6 := fun h => k (.inr (.inr (.inr (.inr h))))
        simp (config := { maxSteps := 10000000 }) (disch := omega) only [i64, i8, bo, encP, rest7, inc7, l0, ap_get0, hd10, hlen, beq_no k1, beq_no k2, beq_no k4, beq_no k5, beq_no k6, unwK_blk, unwK_code, unwK_lp, unwK_ret_blk, runK_ret, runK_seq, runK_cond, condK_known, runK_reg, opsK_nil, opsK_cons, wantK_no, wantK_yes, wantK_free, wants, anyK_quiet, freeK_quiet, isLoud, isLit, beq_self_eq_true, undef, beq_false, quietK_some, calls, opnd, ofV, look_cons, keepE, put, quietOp, readL, partA, binV, K.agg, cond_true, cond_false, List.getElem?_cons_zero, List.getElem?_cons_succ, List.length_cons, List.length_nil, List.drop_zero, List.drop_succ_cons, List.cons_append, List.nil_append, Option.bind_some, Bool.not_true, Bool.not_false, Nat.zero_add, Nat.add_zero, eq_self, reduceCtorEq, ↓reduceIte, Nat.reduceEqDiff, Nat.reduceAdd, Nat.reduceSub, Nat.reduceLeDiff, Nat.reduceLT, dec_no, wrap_i64, CxT3, ty3, CxT5, ty5, CxT31, ty31, CxT44, ty44, CxT50, ty50, CxT52, ty52]
        exact hF' _
      by_cases c2 : p.loc < 6
      case neg =>
        have hF' := hF (if_neg fun h => c2 h.2.2.1)
        rcases k with k | k | k | k | k
        all_goals
          simp (config := { maxSteps := 10000000 }) (disch := omega) only [i64, i8, bo, encP, rest7, inc7, l0, ap_get0, hd10, hlen, k, unwK_blk, unwK_code, unwK_lp, unwK_ret_blk, runK_ret, runK_seq, runK_cond, condK_known, runK_reg, opsK_nil, opsK_cons, wantK_no, wantK_yes, wantK_free, wants, anyK_quiet, freeK_quiet, isLoud, isLit, beq_self_eq_true, undef, beq_false, quietK_some, calls, opnd, ofV, look_cons, keepE, put, quietOp, readL, partA, binV, K.agg, cond_true, cond_false, List.getElem?_cons_zero, List.getElem?_cons_succ, List.length_cons, List.length_nil, List.drop_zero, List.drop_succ_cons, List.cons_append, List.nil_append, Option.bind_some, Bool.not_true, Nat.zero_add, Nat.add_zero, eq_self, reduceCtorEq, ↓reduceIte, Nat.reduceEqDiff, Nat.reduceAdd, Nat.reduceSub, Nat.reduceLeDiff, Nat.reduceLT, dec_yes, dec_no, beq_no, wrap_i64, CxT3, ty3, CxT5, ty5, CxT31, ty31, CxT44, ty44, CxT50, ty50, CxT52, ty52]
          exact hF' _
      by_cases c3 : p.old = memA (initM ini) pre p.loc
      case neg =>
        have hF' := hF (if_neg fun h => c3 h.2.2.2.1)
        rcases k with k | k | k | k | k
        all_goals
          simp (config := { maxSteps := 10000000 }) (disch := omega) only [i64, i8, bo, encP, rest7, inc7, l0, ap_get0, hd10, hlen, k, bne_yes c3, unwK_blk, unwK_code, unwK_lp, unwK_ret_blk, runK_ret, runK_seq, runK_cond, condK_known, runK_reg, opsK_nil, opsK_cons, wantK_no, wantK_yes, wantK_free, wants, anyK_quiet, freeK_quiet, isLoud, isLit, beq_self_eq_true, undef, beq_false, quietK_some, calls, opnd, ofV, look_cons, keepE, put, quietOp, readL, partA, binV, K.agg, cond_true, cond_false, List.getElem?_cons_zero, List.getElem?_cons_succ, List.length_cons, List.length_nil, List.drop_zero, List.drop_succ_cons, List.cons_append, List.nil_append, Option.bind_some, Bool.not_true, Nat.zero_add, Nat.add_zero, eq_self, reduceCtorEq, ↓reduceIte, Nat.reduceEqDiff, Nat.reduceAdd, Nat.reduceSub, Nat.reduceLeDiff, Nat.reduceLT, dec_no, beq_no, wrap_i64, CxT3, ty3, CxT5, ty5, CxT31, ty31, CxT44, ty44, CxT50, ty50, CxT52, ty52]
          exact hF' _
      by_cases c4 : p.new = afterM p.kind p.a p.b p.old
      case neg =>
        have hF' := hF (if_neg fun h => c4 h.2.2.2.2)
        have hae := refAfter_ev (kind := p.kind) (loc := p.loc) (b := p.b) ha.1 ha.2 ho.1 ho.2
        rw [← c3]
        rcases k with k | k | k | k | k
        all_goals
          rw [k] at hae c4
          simp (config := { maxSteps := 10000000 }) (disch := omega) only [i64, i8, bo, encP, rest7, inc7, l0, ap_get0, hd10, hlen, k, QK.use hae, bne_yes c4, unwK_blk, unwK_code, unwK_lp, unwK_ret_blk, runK_ret, runK_seq, runK_cond, condK_known, runK_reg, opsK_nil, opsK_cons, wantK_no, wantK_yes, wantK_free, wants, anyK_quiet, freeK_quiet, freeK_call, isLoud, isLit, beq_self_eq_true, undef, beq_false, quietK_some, lentK_some, calls, callee, opnd, opnds, ofV, look_cons, keepE, put, quietOp, lendL, fz_v, fz_agg, mapO_nil, mapO_cons, shut, shut.shutL, flat, readL, partA, binV, K.agg, cond_true, cond_false, List.getElem?_cons_zero, List.getElem?_cons_succ, List.length_cons, List.length_nil, List.drop_zero, List.drop_succ_cons, List.take_succ_cons, List.take_zero, List.cons_append, List.nil_append, List.append_nil, List.all_cons, List.all_nil, Option.bind_some, Option.map_some, Bool.and_true, Bool.or_true, Bool.not_true, List.isEmpty_nil, List.isEmpty_toArray, Nat.zero_add, Nat.add_zero, true_and, eq_self, reduceCtorEq, ↓reduceIte, Nat.reduceEqDiff, Nat.reduceAdd, Nat.reduceSub, Nat.reduceLeDiff, Nat.reduceLT, dec_no, beq_no, bne_no, wrap_i64, CxT3, ty3, CxT5, ty5, CxT31, ty31, CxT44, ty44, CxT50, ty50, CxT52, ty52]
          exact hF' _
      have hae := refAfter_ev (kind := p.kind) (loc := p.loc) (b := p.b) ha.1 ha.2 ho.1 ho.2
      have hgood : goodP g p (memA (initM ini) pre) := ⟨k, c1, c2, c3, c4⟩
      have hfin := hnext (fun hz => hT ((if_pos hgood).trans hz)) (fun hz => hF ((if_pos hgood).trans hz))
      rw [← c3]
      rcases k with k | k | k | k | k
      all_goals
        rw [k] at hae c4
        simp (config := { maxSteps := 10000000 }) (disch := omega) only [i64, i8, bo, encP, rest7, inc7, l0, ap_get0, hd10, hlen, k, QK.use hae, bne_no c4, runK_blk, runK_lp, unwK_blk, runK_skip, runK_seq, runK_cond, condK_known, runK_reg, opsK_nil, opsK_cons, wantK_no, wantK_yes, wantK_free, wants, anyK_quiet, freeK_quiet, freeK_call, isLoud, isLit, beq_self_eq_true, undef, beq_false, quietK_some, lentK_some, calls, callee, opnd, opnds, ofV, look_cons, keepE, put, quietOp, lendL, fz_v, fz_agg, mapO_nil, mapO_cons, shut, shut.shutL, flat, readL, partA, binV, K.agg, cond_true, cond_false, List.getElem?_cons_zero, List.getElem?_cons_succ, List.length_cons, List.length_nil, List.drop_zero, List.drop_succ_cons, List.take_succ_cons, List.take_zero, List.cons_append, List.nil_append, List.append_nil, List.all_cons, List.all_nil, Option.bind_some, Option.map_some, Bool.and_true, Bool.or_true, Bool.not_true, List.isEmpty_nil, List.isEmpty_toArray, Nat.zero_add, Nat.add_zero, true_and, eq_self, reduceCtorEq, ↓reduceIte, Nat.reduceEqDiff, Nat.reduceAdd, Nat.reduceSub, Nat.reduceLeDiff, Nat.reduceLT, dec_no, beq_no, bne_no, wrap_i64, CxT3, ty3, CxT5, ty5, CxT31, ty31, CxT44, ty44, CxT50, ty50, CxT52, ty52]
        rw [loop_norm (l := [1, 2, 5]) rfl]
        simp (config := { maxSteps := 10000000 }) (disch := omega) only [look_cons, keepE, eq_self, ↓reduceIte, Nat.reduceEqDiff]
        simpa only [i64, i8, encP, k] using hfin
    rw [runK_loop]
    by_cases c0 : p.loc < ini.length
    · have hdi := init_drop ini hlo.1 c0
      simp (config := { maxSteps := 10000000 }) (disch := omega) only [i64, i8, encP, v7_l0, hlen, hd, ap_get0, ap_set0, l0, hd2, hdi, Nat.mul_one, runK_skip, runK_seq, runK_block, runK_cond, condK_known, runK_reg, opsK_nil, opsK_cons, wantK_yes, wants, anyK_loud, anyK_quiet, isLoud, undef, heapK_some, quietK_some, calls, opnd, opnds, ofV, look_cons, keepE, put, quietOp, loudOp, readL, partA, cellsA, one, ones, binV, K.agg, cond_true, List.getElem?_cons_zero, List.getElem?_cons_succ, List.getElem?_toArray, List.length_cons, List.length_nil, List.drop_zero, List.drop_succ_cons, List.drop_nil, List.take_succ_cons, List.take_zero, List.cons_append, List.nil_append, List.append_nil, List.map_cons, List.map_nil, Option.bind_some, Bool.and_true, Nat.zero_add, Nat.add_zero, and_self, eq_self, reduceCtorEq, ↓reduceIte, Nat.reduceEqDiff, Nat.reduceAdd, Nat.reduceLeDiff, Nat.reduceLT, Int.toNat_natCast, ite_yes, dec_yes, wrap_i64, CxT3, ty3, CxT5, ty5, CxT23, ty23, CxT29, ty29, CxT44, ty44, CxT45, ty45, CxT50, ty50, CxT52, ty52]
      rw [loop_norm (l := [1, 2, 5, 6, 7, 8]) rfl]
      simp (config := { maxSteps := 10000000 }) (disch := omega) only [look_cons, keepE, eq_self, ↓reduceIte, Nat.reduceEqDiff]
      simpa only [memA, i64, i8, encP, hlen, List.length_nil, Int.ofNat_zero] using start
    · have hdi := init_out ini c0
      simp (config := { maxSteps := 10000000 }) (disch := omega) only [i64, i8, encP, v7_l0, hlen, hd, ap_get0, ap_set0, l0, hd2, runK_skip, runK_seq, runK_block, runK_cond, condK_known, runK_reg, opsK_nil, opsK_cons, wantK_yes, wants, anyK_loud, anyK_quiet, isLoud, undef, heapK_some, quietK_some, calls, opnd, opnds, ofV, look_cons, keepE, put, quietOp, loudOp, readL, partA, cellsA, one, ones, binV, K.agg, cond_true, cond_false, List.getElem?_cons_zero, List.getElem?_cons_succ, List.getElem?_toArray, List.length_cons, List.length_nil, List.drop_zero, List.drop_succ_cons, List.drop_nil, List.take_succ_cons, List.take_zero, List.cons_append, List.nil_append, List.append_nil, List.map_cons, List.map_nil, Option.bind_some, Bool.and_true, Nat.zero_add, Nat.add_zero, and_self, eq_self, reduceCtorEq, ↓reduceIte, Nat.reduceEqDiff, Nat.reduceAdd, Nat.reduceLeDiff, Nat.reduceLT, Int.toNat_natCast, ite_yes, dec_yes, dec_no, wrap_i64, CxT3, ty3, CxT5, ty5, CxT23, ty23, CxT29, ty29, CxT44, ty44, CxT45, ty45, CxT50, ty50, CxT52, ty52]
      rw [loop_norm (l := [1, 2, 5, 6, 7, 8]) rfl]
      simp (config := { maxSteps := 10000000 }) (disch := omega) only [look_cons, keepE, eq_self, ↓reduceIte, Nat.reduceEqDiff]
      simpa only [memA, i64, i8, encP, hlen, hdi, List.length_nil, Int.ofNat_zero] using start
end Go.Proofs.YtnhknhniemfnjaaGreatDoor.Ev
