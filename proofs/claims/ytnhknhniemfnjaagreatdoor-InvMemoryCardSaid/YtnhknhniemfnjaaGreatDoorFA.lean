/- The law InvMemory for what its row reads. -/
import Derived.Test.YtnhknhniemfnjaaGreatDoorFits
import Derived.Test.YtnhknhniemfnjaaGreatDoorM8
set_option linter.unusedSimpArgs false
set_option linter.unusedVariables false
namespace Go.Proofs.YtnhknhniemfnjaaGreatDoor
open Go Go.RowKit Go.Proofs.YtnhknhniemfnjaaGreatDoor.Ev
set_option maxRecDepth 100000
/-- The cells of a world; of its lists only those of numbers are opened. -/
noncomputable def worldSh : List Sh := (flatO Tryz.prog (Nat.beq 5) 12 44).getD []
theorem worldSh_eq : flatO Tryz.prog (Nat.beq 5) 12 44 = some worldSh := by kernel_rfl
theorem worldSh_len : Nat.beq worldSh.length 585 = true := by kernel_rfl
theorem worldSh2 : worldSh[2]? = some (.sl [.sc (.int .u8)]) := by kernel_rfl
theorem worldSh10 : worldSh[10]? = some (.sc (.int .i64)) := by kernel_rfl
theorem flat_i8 : ∀ l : List Int, (l.map fun x => [i8 x]).flatten = l.map i8
  | [] => rfl
  | x :: l => by rw [List.map_cons, List.flatten_cons, flat_i8 l, List.map_cons]; rfl
theorem flat_P : ∀ l : List Pf, (l.map encP).flatten = encL l
  | [] => rfl
  | x :: l => by rw [List.map_cons, List.flatten_cons, flat_P l, encL]
theorem world_open {cs : List A} (h : FitsA worldSh cs) : cs.length = 585 ∧ (∃ g : Int, cs[10]? = some (i64 g)) ∧ ∃ ini : List Int, ini.length ≤ 4611686018427387904 ∧ cs[2]? = some (.sl ini.length (ini.map i8)) := by
  refine ⟨by rw [fitsA_len h]; exact Nat.eq_of_beq_eq_true worldSh_len, ?_, ?_⟩
  · obtain ⟨a, h1, h2⟩ := fitsA_get h 10 _ worldSh10
    obtain ⟨g, rfl, -⟩ := sh_i64 h2
    exact ⟨g, h1⟩
  · obtain ⟨a, h1, h2⟩ := fitsA_get h 2 _ worldSh2
    obtain ⟨L, rfl, h3, h4⟩ := sh_sl h2
    obtain ⟨l, -, rfl⟩ := lift_list (p := fun _ : Int => True) (f := fun x => [i8 x]) fun c hc => by
      obtain ⟨_, _, rfl, a0, k0⟩ := fitsA_cons (h4 c hc)
      obtain ⟨x, rfl, -⟩ := sh_u8 a0
      obtain rfl := fitsA_nil k0
      exact ⟨x, trivial, rfl⟩
    refine ⟨l, ?_, ?_⟩
    · simp only [List.length_map, reachBytes] at h3
      omega
    · rw [h1, List.length_map, flat_i8]
theorem pf_of {c : List A} (h : FitsA [.sc (.int .u8), .sc (.int .u8), .sc (.int .u8), .sc (.int .u8), .sc (.int .u8), .sc (.int .u8), .sc (.int .u8)] c) : ∃ x : Pf, x.Ok ∧ c = encP x := by
  obtain ⟨_, _, rfl, a0, h0⟩ := fitsA_cons h
  obtain ⟨x0, rfl, b0⟩ := sh_u8 a0
  obtain ⟨_, _, rfl, a1, h1⟩ := fitsA_cons h0
  obtain ⟨x1, rfl, b1⟩ := sh_u8 a1
  obtain ⟨_, _, rfl, a2, h2⟩ := fitsA_cons h1
  obtain ⟨x2, rfl, b2⟩ := sh_u8 a2
  obtain ⟨_, _, rfl, a3, h3⟩ := fitsA_cons h2
  obtain ⟨x3, rfl, b3⟩ := sh_u8 a3
  obtain ⟨_, _, rfl, a4, h4⟩ := fitsA_cons h3
  obtain ⟨x4, rfl, b4⟩ := sh_u8 a4
  obtain ⟨_, _, rfl, a5, h5⟩ := fitsA_cons h4
  obtain ⟨x5, rfl, b5⟩ := sh_u8 a5
  obtain ⟨_, _, rfl, a6, h6⟩ := fitsA_cons h5
  obtain ⟨x6, rfl, b6⟩ := sh_u8 a6
  obtain rfl := fitsA_nil h6
  exact ⟨⟨x0, x1, x2, x3, x4, x5, x6⟩, ⟨b0, b1, b2, b3, b4, b5, b6⟩, rfl⟩
theorem pf_open {a : A} (h : shFits (.sl [.sc (.int .u8), .sc (.int .u8), .sc (.int .u8), .sc (.int .u8), .sc (.int .u8), .sc (.int .u8), .sc (.int .u8)]) a) : ∃ l : List Pf, a = .sl l.length (encL l) ∧ l.length ≤ 4611686018427387904 ∧ ∀ p ∈ l, p.Ok := by
  obtain ⟨L, rfl, h1, h2⟩ := sh_sl h
  obtain ⟨l, h3, rfl⟩ := lift_list (p := Pf.Ok) (f := encP) fun c hc => pf_of (h2 c hc)
  refine ⟨l, ?_, ?_, h3⟩
  · rw [List.length_map, flat_P]
  · simp only [List.length_map, reachBytes] at h1
    omega
namespace Ev
/-- The program, the examples and both forms of Atomic known. -/
noncomputable def XM : FuncId → List A → Option A := XE CZ [8] (XE Cx [6, 7] fun _ _ => none)
theorem XM_ok : QOk Cx.T Tryz.prog XM := XE_ok CZ_ok rfl (XE_ok CxOk rfl qOk_none)
noncomputable def CM : Ctx := CA XM
theorem CM_B3 : CM.B 3 = some fn3 := CxB3
theorem CM_ok : CtxOk Tryz.prog CM := CA_ok XM_ok
set_option maxHeartbeats 8000000 in
theorem invMemory_ev' {cs : List A} (hl : cs.length = 585) (h1 : ones cs = true) (hfz : ∀ (H : Heap) (n : Nat), mapO (freeze H (n + 1)) cs = some cs) (hsh : shut.shutL cs = true) {n : Nat} {zs : List A} (hn : n ≤ 4611686018427387904) {b : Bool}
    (x6 : EvQ Cx 6 [.agg cs, .sl n zs] (bo b)) (x7 : EvQ Cx 7 [.agg cs, .sl n zs] (bo b)) : EvQ CM 3 [.agg cs, .sl n zs] (bo true) := by
  have y8 : EvQ (CA XM) 8 [] (bo true) := evQ_ext (XE_hit (by simp) awake_ev)
  have y6 : EvQ (CA XM) 6 [.agg cs, .sl n zs] (bo b) := evQ_ext (by
    show XM 6 [.agg cs, .sl n zs] = some (bo b)
    unfold XM
    rw [XE_miss (by decide)]
    exact XE_hit (by simp) x6)
  have y7 : EvQ (CA XM) 7 [.agg cs, .sl n zs] (bo b) := evQ_ext (by
    show XM 7 [.agg cs, .sl n zs] = some (bo b)
    unfold XM
    rw [XE_miss (by decide)]
    exact XE_hit (by simp) x7)
  refine evQ_of (C := CA XM) (m := fn3) CxB3 (by show XM 3 [.agg cs, .sl n zs] = none; unfold XM; rw [XE_miss (by decide), XE_miss (by decide)]) (by simp [fn3]) ?_
  have ht : List.take 585 cs = cs := List.take_of_length_le (by omega)
  by_cases h60 : n > 60
  · simp (config := { maxSteps := 10000000 }) (disch := omega) only [bo, fn3, m3, CA_T, h1, passK_shut (C := CA XM) (f := 8) rfl, QK.use y8, unwK_nil, runK_ret, runK_seq, runK_reg, opsK_nil, opsK_cons, wantK_no, wantK_yes, wantK_free, wants, anyK_loud, anyK_quiet, anyK_call, freeK_quiet, isLoud, isLit, beq_self_eq_true, undef, beq_false, heapK_some, quietK_some, lentK_some, FinQ, result, resAll, resOne, calls, callee, opnd, opnds, ofV, look_cons, keepE, put, argE, quietOp, loudOp, lendL, holdR_shut, fz_v, flat, cellsA, binV, cond_true, List.getElem?_cons_zero, List.getElem?_toArray, List.length_nil, List.nil_append, List.append_nil, List.all_nil, Option.bind_some, Bool.and_true, Bool.or_true, Bool.not_true, List.isEmpty_nil, List.isEmpty_toArray, Nat.zero_add, and_self, eq_self, reduceCtorEq, ↓reduceIte, Nat.reduceEqDiff, Nat.reduceSub, dec_yes, CxT45, ty45]
  · simp (config := { maxSteps := 10000000 }) (disch := omega) only [bo, fn3, m3, CA_T, hl, h1, ht, hfz, hsh, passK_shut (C := CA XM) (f := 8) rfl, passK_shut (C := CA XM) (f := 7) rfl, QK.use y8, QK.use y6, QK.use y7, unwK_nil, runK_ret, runK_seq, runK_reg, opsK_nil, opsK_cons, wantK_yes, wantK_free, wants, anyK_loud, anyK_quiet, anyK_call, freeK_quiet, freeK_call, isLoud, isLit, beq_self_eq_true, heapK_some, quietK_some, lentK_some, FinQ, result, resAll, resOne, calls, callee, opnd, opnds, ofV, look_cons, keepE, put, argE, quietOp, loudOp, lendL, holdR_shut, fz_v, fz_agg, fz_sl, shut, flat, readL, partA, cellsA, binV, eqOp, nilEq, sameA, K.agg, cond_true, cond_false, List.getElem?_cons_zero, List.getElem?_toArray, List.length_nil, List.drop_zero, List.cons_append, List.nil_append, List.append_nil, List.all_cons, List.all_nil, Option.bind_some, Option.map_some, Bool.and_true, Bool.or_true, List.isEmpty_nil, List.isEmpty_toArray, Nat.zero_add, and_self, eq_self, reduceCtorEq, ↓reduceIte, Nat.reduceEqDiff, Nat.reduceSub, Nat.reduceLeDiff, dec_no, CxT4, ty4, CxT44, ty44, CxT45, ty45]
theorem InvMemory_ev {cs : List A} (h : FitsA worldSh cs) (l : List Pf) (hn : l.length ≤ 4611686018427387904) (hok : ∀ p ∈ l, p.Ok) : EvQ CM 3 [.agg cs, .sl l.length (encL l)] (bo true) := by
  obtain ⟨hl, ⟨g, hg⟩, ini, hin, hi⟩ := world_open h
  obtain ⟨h1, h2, h3⟩ := fitsA_all h
  exact invMemory_ev' hl h1 h3 h2 hn (atomic_ev hl h1 hg hi hok hn) (refAtomic_ev hl h1 hg hi hin hok hn)
end Ev
end Go.Proofs.YtnhknhniemfnjaaGreatDoor
