/- A state of a system, opened: its caches, homes and messages. -/
import Derived.Test.YtnhknhniemfnjaaGreatDoorL1
import Derived.Test.YtnhknhniemfnjaaGreatDoorN5
import Derived.Test.YtnhknhniemfnjaaGreatDoorMA
set_option linter.unusedSimpArgs false
set_option linter.unusedVariables false
namespace Go.Proofs.YtnhknhniemfnjaaGreatDoor
open Go Go.RowKit Go.Proofs.YtnhknhniemfnjaaGreatDoor.Ev
set_option maxRecDepth 100000
theorem fitsA_drop : ∀ (n : Nat) {ks : List Sh} {l : List A}, FitsA ks l → FitsA (ks.drop n) (l.drop n)
  | 0, _, _, h => h
  | n + 1, [], l, h => by
    obtain rfl := fitsA_nil h
    exact h
  | n + 1, s :: ks, l, h => by
    obtain ⟨a, l', rfl, -, h'⟩ := fitsA_cons h
    exact fitsA_drop n h'
theorem fitsA_split : ∀ {a b : List Sh} {l : List A}, FitsA (a ++ b) l → ∃ x y, l = x ++ y ∧ FitsA a x ∧ FitsA b y
  | [], _, l, h => ⟨[], l, rfl, by rw [FitsA], h⟩
  | s :: a, b, l, h => by
    obtain ⟨v, l', rfl, h1, h2⟩ := fitsA_cons h
    obtain ⟨x, y, rfl, h3, h4⟩ := fitsA_split h2
    exact ⟨v :: x, y, rfl, by rw [FitsA]; exact ⟨v, x, rfl, h1, h3⟩, h4⟩
theorem fitsA_at {ks p : List Sh} {l : List A} (h : FitsA ks l) (n : Nat) (hp : (ks.drop n).take p.length = p) : ∃ x tl, l.drop n = x ++ tl ∧ FitsA p x := by
  have h' := fitsA_drop n h
  rw [← List.take_append_drop p.length (ks.drop n), hp] at h'
  obtain ⟨x, y, h1, h2, -⟩ := fitsA_split h'
  exact ⟨x, y, h1, h2⟩
theorem sh_i8 {a : A} (h : shFits (.sc (.int .i8)) a) : ∃ x : Int, a = .v (.int .i8 x) ∧ -128 ≤ x ∧ x ≤ 127 := by
  obtain ⟨x, h1, h2⟩ := sh_int h
  refine ⟨x, h1, ?_⟩
  simp [Lit.wf, IntKind.min, IntKind.max, IntKind.signed, IntKind.bits] at h2
  omega
theorem sh_u64 {a : A} (h : shFits (.sc (.int .u64)) a) : ∃ x : Nat, a = .v (.int .u64 x) ∧ x < 2 ^ 64 := by
  obtain ⟨x, h1, h2⟩ := sh_int h
  simp [Lit.wf, IntKind.min, IntKind.max, IntKind.signed, IntKind.bits] at h2
  refine ⟨x.toNat, ?_, by omega⟩
  rw [h1, show ((x.toNat : Nat) : Int) = x by omega]
theorem ln_of {c : List A} (h : FitsA [.sc (.int .u8), .sc (.int .u8), .sc (.int .i8), .sc .bool, .sc (.int .u8), .sc (.int .u8), .sc (.int .u8), .sc (.int .u8)] c) : ∃ x : Ln, x.Ok ∧ c = cL x := by
  obtain ⟨_, _, rfl, a0, h0⟩ := fitsA_cons h
  obtain ⟨x0, rfl, b0⟩ := sh_u8 a0
  obtain ⟨_, _, rfl, a1, h1⟩ := fitsA_cons h0
  obtain ⟨x1, rfl, b1⟩ := sh_u8 a1
  obtain ⟨_, _, rfl, a2, h2⟩ := fitsA_cons h1
  obtain ⟨x2, rfl, b2⟩ := sh_i8 a2
  obtain ⟨_, _, rfl, a3, h3⟩ := fitsA_cons h2
  obtain ⟨x3, rfl⟩ := sh_bool a3
  obtain ⟨_, _, rfl, a4, h4⟩ := fitsA_cons h3
  obtain ⟨x4, rfl, b4⟩ := sh_u8 a4
  obtain ⟨_, _, rfl, a5, h5⟩ := fitsA_cons h4
  obtain ⟨x5, rfl, b5⟩ := sh_u8 a5
  obtain ⟨_, _, rfl, a6, h6⟩ := fitsA_cons h5
  obtain ⟨x6, rfl, b6⟩ := sh_u8 a6
  obtain ⟨_, _, rfl, a7, h7⟩ := fitsA_cons h6
  obtain ⟨x7, rfl, b7⟩ := sh_u8 a7
  obtain rfl := fitsA_nil h7
  exact ⟨⟨x0, x1, x2, x3, x4, x5, x6, x7⟩, ⟨b0, b1, b2, b4, b5, b6, b7⟩, rfl⟩
theorem mg_of {c : List A} (h : FitsA [.sc (.int .u8), .sc (.int .u8), .sc (.int .u8), .sc (.int .u8), .sc (.int .u8), .sc (.int .u8), .sc .bool, .sc (.int .u8), .sc (.int .u8), .sc (.int .u8), .sc (.int .u8)] c) : ∃ x : Mg, x.Ok ∧ c = cM x := by
  obtain ⟨_, _, rfl, a0, h0⟩ := fitsA_cons h
  obtain ⟨x0, rfl, b0⟩ := sh_u8 a0
  obtain ⟨_, _, rfl, a1, h1⟩ := fitsA_cons h0
  obtain ⟨x1, rfl, b1⟩ := sh_u8 a1
  obtain ⟨_, _, rfl, a2, h2⟩ := fitsA_cons h1
  obtain ⟨x2, rfl, b2⟩ := sh_u8 a2
  obtain ⟨_, _, rfl, a3, h3⟩ := fitsA_cons h2
  obtain ⟨x3, rfl, b3⟩ := sh_u8 a3
  obtain ⟨_, _, rfl, a4, h4⟩ := fitsA_cons h3
  obtain ⟨x4, rfl, b4⟩ := sh_u8 a4
  obtain ⟨_, _, rfl, a5, h5⟩ := fitsA_cons h4
  obtain ⟨x5, rfl, b5⟩ := sh_u8 a5
  obtain ⟨_, _, rfl, a6, h6⟩ := fitsA_cons h5
  obtain ⟨x6, rfl⟩ := sh_bool a6
  obtain ⟨_, _, rfl, a7, h7⟩ := fitsA_cons h6
  obtain ⟨x7, rfl, b7⟩ := sh_u8 a7
  obtain ⟨_, _, rfl, a8, h8⟩ := fitsA_cons h7
  obtain ⟨x8, rfl, b8⟩ := sh_u8 a8
  obtain ⟨_, _, rfl, a9, h9⟩ := fitsA_cons h8
  obtain ⟨x9, rfl, b9⟩ := sh_u8 a9
  obtain ⟨_, _, rfl, a10, h10⟩ := fitsA_cons h9
  obtain ⟨x10, rfl, b10⟩ := sh_u8 a10
  obtain rfl := fitsA_nil h10
  exact ⟨⟨x0, x1, x2, x3, x4, x5, x6, x7, x8, x9, x10⟩, ⟨b0, b1, b2, b3, b4, b5, b7, b8, b9, b10⟩, rfl⟩
theorem dr_of {c : List A} (h : FitsA [.sc (.int .u8), .sc (.int .u8), .sc (.int .u8), .sc (.int .u64), .sc .bool, .sc (.int .u8), .sc (.int .u8), .sc (.int .u8), .sc (.int .u8), .sc (.int .u8), .sc (.int .u8)] c) : ∃ x : Dr, x.Ok ∧ x.mask < 2 ^ 64 ∧ c = cD x := by
  obtain ⟨_, _, rfl, a0, h0⟩ := fitsA_cons h
  obtain ⟨x0, rfl, b0⟩ := sh_u8 a0
  obtain ⟨_, _, rfl, a1, h1⟩ := fitsA_cons h0
  obtain ⟨x1, rfl, b1⟩ := sh_u8 a1
  obtain ⟨_, _, rfl, a2, h2⟩ := fitsA_cons h1
  obtain ⟨x2, rfl, b2⟩ := sh_u8 a2
  obtain ⟨_, _, rfl, a3, h3⟩ := fitsA_cons h2
  obtain ⟨x3, rfl, b3⟩ := sh_u64 a3
  obtain ⟨_, _, rfl, a4, h4⟩ := fitsA_cons h3
  obtain ⟨x4, rfl⟩ := sh_bool a4
  obtain ⟨_, _, rfl, a5, h5⟩ := fitsA_cons h4
  obtain ⟨x5, rfl, b5⟩ := sh_u8 a5
  obtain ⟨_, _, rfl, a6, h6⟩ := fitsA_cons h5
  obtain ⟨x6, rfl, b6⟩ := sh_u8 a6
  obtain ⟨_, _, rfl, a7, h7⟩ := fitsA_cons h6
  obtain ⟨x7, rfl, b7⟩ := sh_u8 a7
  obtain ⟨_, _, rfl, a8, h8⟩ := fitsA_cons h7
  obtain ⟨x8, rfl, b8⟩ := sh_u8 a8
  obtain ⟨_, _, rfl, a9, h9⟩ := fitsA_cons h8
  obtain ⟨x9, rfl, b9⟩ := sh_u8 a9
  obtain ⟨_, _, rfl, a10, h10⟩ := fitsA_cons h9
  obtain ⟨x10, rfl, b10⟩ := sh_u8 a10
  obtain rfl := fitsA_nil h10
  exact ⟨⟨x0, x1, x2, x3, x4, x5, x6, x7, x8, x9, x10⟩, ⟨b0, b1, b5, b6⟩, b3, rfl⟩
theorem rp_of {c : List A} (h : FitsA [.sc (.int .u8), .sc (.int .i64), .sc (.int .u8), .sc (.int .u8), .sc (.int .u8), .sc (.int .u8), .sc (.int .u8)] c) : ∃ x : Rp, x.Ok ∧ c = cR x := by
  obtain ⟨_, _, rfl, a0, h0⟩ := fitsA_cons h
  obtain ⟨x0, rfl, b0⟩ := sh_u8 a0
  obtain ⟨_, _, rfl, a1, h1⟩ := fitsA_cons h0
  obtain ⟨x1, rfl, b1⟩ := sh_i64 a1
  obtain ⟨_, _, rfl, a2, h2⟩ := fitsA_cons h1
  obtain ⟨x2, rfl, b2⟩ := sh_u8 a2
  obtain ⟨_, _, rfl, a3, h3⟩ := fitsA_cons h2
  obtain ⟨x3, rfl, b3⟩ := sh_u8 a3
  obtain ⟨_, _, rfl, a4, h4⟩ := fitsA_cons h3
  obtain ⟨x4, rfl, b4⟩ := sh_u8 a4
  obtain ⟨_, _, rfl, a5, h5⟩ := fitsA_cons h4
  obtain ⟨x5, rfl, b5⟩ := sh_u8 a5
  obtain ⟨_, _, rfl, a6, h6⟩ := fitsA_cons h5
  obtain ⟨x6, rfl, b6⟩ := sh_u8 a6
  obtain rfl := fitsA_nil h6
  exact ⟨⟨x0, x1, x2, x3, x4, x5, x6⟩, ⟨b2, b3, b4, b5⟩, rfl⟩
noncomputable def cacheSh : List Sh := (flatS Tryz.prog 12 90).getD []
theorem cacheSh_eq : flatS Tryz.prog 12 90 = some cacheSh := by kernel_rfl
theorem cacheSh_len : Nat.beq cacheSh.length 160 = true := by kernel_rfl
noncomputable def sysSh : List Sh := (flatO Tryz.prog (fun t => Nat.beq t 90 || Nat.beq t 77) 12 69).getD []
theorem sysSh_eq : flatO Tryz.prog (fun t => Nat.beq t 90 || Nat.beq t 77) 12 69 = some sysSh := by kernel_rfl
theorem sysSh_len : Nat.beq sysSh.length 69 = true := by kernel_rfl
theorem sysSh1 : sysSh[1]? = some (.sl cacheSh) := by kernel_rfl
theorem sysSh68 : sysSh[68]? = some (.sl [.sc (.int .u8), .sc (.int .u8), .sc (.int .u8), .sc (.int .u8), .sc (.int .u8), .sc (.int .u8), .sc .bool, .sc (.int .u8), .sc (.int .u8), .sc (.int .u8), .sc (.int .u8)]) := by kernel_rfl
theorem sysShH : ∀ n : Nat, n < 6 → (sysSh.drop (2 + n * 11)).take 11 = [.sc (.int .u8), .sc (.int .u8), .sc (.int .u8), .sc (.int .u64), .sc .bool, .sc (.int .u8), .sc (.int .u8), .sc (.int .u8), .sc (.int .u8), .sc (.int .u8), .sc (.int .u8)] := fun n hn => by
  rcases (show n = 0 ∨ n = 1 ∨ n = 2 ∨ n = 3 ∨ n = 4 ∨ n = 5 by omega) with rfl | rfl | rfl | rfl | rfl | rfl
  all_goals kernel_rfl
theorem cacheShW : ∀ k : Nat, k < 16 → (cacheSh.drop (k * 8)).take 8 = [.sc (.int .u8), .sc (.int .u8), .sc (.int .i8), .sc .bool, .sc (.int .u8), .sc (.int .u8), .sc (.int .u8), .sc (.int .u8)] := fun n hn => by
  rcases (show n = 0 ∨ n = 1 ∨ n = 2 ∨ n = 3 ∨ n = 4 ∨ n = 5 ∨ n = 6 ∨ n = 7 ∨ n = 8 ∨ n = 9 ∨ n = 10 ∨ n = 11 ∨ n = 12 ∨ n = 13 ∨ n = 14 ∨ n = 15 by omega) with rfl | rfl | rfl | rfl | rfl | rfl | rfl | rfl | rfl | rfl | rfl | rfl | rfl | rfl | rfl | rfl
  all_goals kernel_rfl
theorem cacheShN : ∀ n : Nat, n < 4 → (cacheSh.drop (128 + n * 7)).take 7 = [.sc (.int .u8), .sc (.int .i64), .sc (.int .u8), .sc (.int .u8), .sc (.int .u8), .sc (.int .u8), .sc (.int .u8)] := fun n hn => by
  rcases (show n = 0 ∨ n = 1 ∨ n = 2 ∨ n = 3 by omega) with rfl | rfl | rfl | rfl
  all_goals kernel_rfl
open Classical in
theorem cache_open {cs : List A} (h : FitsA cacheSh cs) : ∃ (W : Nat → Nat → Ln) (N : Nat → Rp), CacheR cs W ∧ CacheO W ∧ CacheN cs N := by
  obtain ⟨o1, o2, o3⟩ := fitsA_all h
  have hw : ∀ s w : Nat, ∃ x : Ln, s < 4 → w < 4 → x.Ok ∧ ∃ tl, List.drop (s * 32 + w * 8) cs = cL x ++ tl := fun s w => by
    by_cases hs : s < 4 ∧ w < 4
    · obtain ⟨c, tl, e, f⟩ := fitsA_at h (s * 32 + w * 8) (p := [.sc (.int .u8), .sc (.int .u8), .sc (.int .i8), .sc .bool, .sc (.int .u8), .sc (.int .u8), .sc (.int .u8), .sc (.int .u8)]) (by rw [show s * 32 + w * 8 = (s * 4 + w) * 8 by omega]; exact cacheShW _ (by omega))
      obtain ⟨x, hx, rfl⟩ := ln_of f
      exact ⟨x, fun _ _ => ⟨hx, tl, e⟩⟩
    · exact ⟨noLn, fun a b => absurd ⟨a, b⟩ hs⟩
  have hn : ∀ s : Nat, ∃ x : Rp, s < 4 → x.Ok ∧ ∃ tl, List.drop (128 + s * 7) cs = cR x ++ tl := fun s => by
    by_cases hs : s < 4
    · obtain ⟨c, tl, e, f⟩ := fitsA_at h (128 + s * 7) (p := [.sc (.int .u8), .sc (.int .i64), .sc (.int .u8), .sc (.int .u8), .sc (.int .u8), .sc (.int .u8), .sc (.int .u8)]) (cacheShN s hs)
      obtain ⟨x, hx, rfl⟩ := rp_of f
      exact ⟨x, fun _ => ⟨hx, tl, e⟩⟩
    · exact ⟨⟨0, 0, 0, 0, 0, 0, 0⟩, fun a => absurd a hs⟩
  refine ⟨fun s w => Classical.choose (hw s w), fun s => Classical.choose (hn s), ⟨by rw [fitsA_len h]; exact Nat.eq_of_beq_eq_true cacheSh_len, o1, o2, o3, fun s w a b => (Classical.choose_spec (hw s w) a b).2⟩, ⟨fun s w a b => (Classical.choose_spec (hw s w) a b).1⟩, ⟨fun s a => (Classical.choose_spec (hn s) a).2, fun s a => (Classical.choose_spec (hn s) a).1⟩⟩
theorem flat_M : ∀ l : List Mg, (l.map cM).flatten = encN l
  | [] => rfl
  | x :: l => by rw [List.map_cons, List.flatten_cons, flat_M l, encN]
open Classical in
theorem sys_open {ss : List A} (h : FitsA sysSh ss) : ∃ (net : List Mg) (J : List (List A)) (W : Nat → Nat → Nat → Ln) (N : Nat → Nat → Rp) (D : Nat → Dr),
    SysR ss net ∧ SysC ss J W ∧ (∀ i < J.length, CacheO (W i)) ∧ (∀ i cs, J[i]? = some cs → CacheN cs (N i)) ∧ (∀ m ∈ net, m.Ok) ∧ SysH ss D ∧ SysM D ∧ J.length ≤ 4611686018427387904 ∧ net.length ≤ 4611686018427387904 := by
  obtain ⟨o1, o2, o3⟩ := fitsA_all h
  have hlen : ss.length = 69 := by rw [fitsA_len h]; exact Nat.eq_of_beq_eq_true sysSh_len
  obtain ⟨a1, e1, f1⟩ := fitsA_get h 1 _ sysSh1
  obtain ⟨J, rfl, j1, j2⟩ := sh_sl f1
  obtain ⟨a2, e2, f2⟩ := fitsA_get h 68 _ sysSh68
  obtain ⟨M, rfl, m1, m2⟩ := sh_sl f2
  obtain ⟨net, n1, rfl⟩ := lift_list (p := Mg.Ok) (f := cM) fun c hc => mg_of (m2 c hc)
  have hd : ∀ n : Nat, ∃ x : Dr, n < 6 → x.Ok ∧ x.mask < 2 ^ 64 ∧ ∃ tl, List.drop (2 + n * 11) ss = cD x ++ tl := fun n => by
    by_cases hs : n < 6
    · obtain ⟨c, tl, e, f⟩ := fitsA_at h (2 + n * 11) (p := [.sc (.int .u8), .sc (.int .u8), .sc (.int .u8), .sc (.int .u64), .sc .bool, .sc (.int .u8), .sc (.int .u8), .sc (.int .u8), .sc (.int .u8), .sc (.int .u8), .sc (.int .u8)]) (sysShH n hs)
      obtain ⟨x, hx, hm, rfl⟩ := dr_of f
      exact ⟨x, fun _ => ⟨hx, hm, tl, e⟩⟩
    · exact ⟨⟨0, 0, 0, 0, false, 0, 0, 0, 0, 0, 0⟩, fun a => absurd a hs⟩
  have hc : ∀ i : Nat, ∃ p : (Nat → Nat → Ln) × (Nat → Rp), ∀ cs, J[i]? = some cs → CacheR cs p.1 ∧ CacheO p.1 ∧ CacheN cs p.2 := fun i => by
    cases hi : J[i]? with
    | none => exact ⟨⟨fun _ _ => noLn, fun _ => ⟨0, 0, 0, 0, 0, 0, 0⟩⟩, fun cs e => by cases e⟩
    | some c =>
      obtain ⟨W, N, x⟩ := cache_open (j2 c (List.mem_of_getElem? hi))
      exact ⟨⟨W, N⟩, fun cs e => by cases e; exact x⟩
  refine ⟨net, J, fun i => (Classical.choose (hc i)).1, fun i => (Classical.choose (hc i)).2, fun n => Classical.choose (hd n), ⟨hlen, o1, o2, o3, ?_⟩, ⟨?_, fun i cs e => (Classical.choose_spec (hc i) cs e).1⟩, fun i hi => ?_, fun i cs e => (Classical.choose_spec (hc i) cs e).2.2, n1, ⟨fun n hn => (Classical.choose_spec (hd n) hn).2.2, fun n hn => (Classical.choose_spec (hd n) hn).1⟩, ⟨fun n hn => (Classical.choose_spec (hd n) hn).2.1⟩, ?_, ?_⟩
  · rw [List.length_map, flat_M] at e2
    rw [List.drop_eq_getElem_cons (by omega), List.drop_of_length_le (by omega)]
    rw [List.getElem?_eq_getElem (by omega)] at e2
    rw [Option.some.inj e2]
  · refine ⟨List.drop 2 ss, ?_⟩
    rw [List.drop_eq_getElem_cons (by omega)]
    rw [List.getElem?_eq_getElem (by omega)] at e1
    rw [Option.some.inj e1]
  · obtain ⟨cs, e⟩ : ∃ cs, J[i]? = some cs := ⟨_, List.getElem?_eq_getElem hi⟩
    exact (Classical.choose_spec (hc i) cs e).2.1
  · simp only [reachBytes] at j1
    omega
  · simp only [List.length_map, reachBytes] at m1
    omega
noncomputable def worldShT : List Sh := (flatO Tryz.prog (fun _ => false) 12 44).getD []
theorem worldShT_eq : flatO Tryz.prog (fun _ => false) 12 44 = some worldShT := by kernel_rfl
theorem worldShT_len : Nat.beq worldShT.length 585 = true := by kernel_rfl
theorem worldShT_geo : (worldShT.drop 10).take 5 = [.sc (.int .i64), .sc (.int .i64), .sc (.int .i64), .sc (.int .i64), .sc (.int .i64)] := by kernel_rfl
theorem world_openT {ws : List A} (h : FitsA worldShT ws) : ∃ c hh o s y : Int, WorldR ws c hh o s y := by
  obtain ⟨o1, o2, o3⟩ := fitsA_all h
  obtain ⟨c, tl, e, f⟩ := fitsA_at h 10 (p := [.sc (.int .i64), .sc (.int .i64), .sc (.int .i64), .sc (.int .i64), .sc (.int .i64)]) worldShT_geo
  obtain ⟨_, _, rfl, a0, h0⟩ := fitsA_cons f
  obtain ⟨x0, rfl, -⟩ := sh_i64 a0
  obtain ⟨_, _, rfl, a1, h1⟩ := fitsA_cons h0
  obtain ⟨x1, rfl, -⟩ := sh_i64 a1
  obtain ⟨_, _, rfl, a2, h2⟩ := fitsA_cons h1
  obtain ⟨x2, rfl, -⟩ := sh_i64 a2
  obtain ⟨_, _, rfl, a3, h3⟩ := fitsA_cons h2
  obtain ⟨x3, rfl, -⟩ := sh_i64 a3
  obtain ⟨_, _, rfl, a4, h4⟩ := fitsA_cons h3
  obtain ⟨x4, rfl, -⟩ := sh_i64 a4
  obtain rfl := fitsA_nil h4
  exact ⟨x0, x1, x2, x3, x4, by rw [fitsA_len h]; exact Nat.eq_of_beq_eq_true worldShT_len, o1, o2, o3, tl, e⟩
end Go.Proofs.YtnhknhniemfnjaaGreatDoor
namespace Go.Proofs.YtnhknhniemfnjaaGreatDoor
open Go Go.RowKit Go.Proofs.YtnhknhniemfnjaaGreatDoor.Ev
set_option maxRecDepth 100000
namespace Ev
noncomputable def XT : FuncId → List A → Option A := XE CZ [8] (XE Cx [10, 11, 12, 13, 14, 15, 16, 17, 18] fun _ _ => none)
theorem XT_ok : QOk Cx.T Tryz.prog XT := XE_ok CZ_ok rfl (XE_ok CxOk rfl qOk_none)
noncomputable def CT : Ctx := CA XT
theorem CT_B : CT.B 5 = some fn5 := CxB5
theorem CT_ok : CtxOk Tryz.prog CT := CA_ok XT_ok
theorem XT_at {f : FuncId} {l : List A} {r : A} (hf : f ∈ ([10, 11, 12, 13, 14, 15, 16, 17, 18] : List FuncId)) (h0 : f ∉ ([8] : List FuncId)) (h : EvQ Cx f l r) : EvQ (CA XT) f l r := evQ_ext (by
  show XT f l = some r
  unfold XT
  rw [XE_miss h0]
  exact XE_hit hf h)
theorem XT_none (l : List A) : XT 5 l = none := by
  unfold XT
  rw [XE_miss (by decide), XE_miss (by decide)]
set_option maxHeartbeats 16000000 in
theorem tells_many {ws ss : List A} {c h o s y : Int} {net : List Mg} {J : List (List A)} {W : Nat → Nat → Nat → Ln} (hW : WorldR ws c h o s y) (hS : SysR ss net) (hC : SysC ss J W) (hn : net.length ≤ 4611686018427387904) (hJ : J.length ≤ 4611686018427387904) (hm : ¬ (net.length ≤ 40 ∧ J.length ≤ 8)) : EvQ CT 5 [.agg ws, .agg ss] (bo true) := by
  have w1 := hW.len; have w2 := hW.one; have s3 := hS.len; have s4 := hS.one; have hwt : List.take 585 ws = ws := List.take_of_length_le (by omega); have hst : List.take 69 ss = ss := List.take_of_length_le (by omega); have hwf := hW.fz; have hsf := hS.fz; have hwh := hW.shut; have hsh := hS.shut
  obtain ⟨tc, hc⟩ := hC.caches
  have hnt := hS.net
  have y8 : EvQ (CA XT) 8 [] (bo true) := evQ_ext (XE_hit (by simp) awake_ev)
  refine evQ_of (C := CA XT) (m := fn5) CT_B (XT_none [.agg ws, .agg ss]) (by simp [fn5]) ?_
  by_cases h40 : net.length ≤ 40
  · have h8 : ¬ J.length ≤ 8 := fun h8 => hm ⟨h40, h8⟩
    simp (disch := omega) only [go_sem, CA_T, w1, w2, s3, s4, hwt, hst, hwf, hsf, hwh, hsh, hc, hnt, passK_shut (C := CA XT) (f := 8) rfl, QK.use y8, simprocAttr]
  · simp (disch := omega) only [go_sem, CA_T, w1, w2, s3, s4, hwt, hst, hwf, hsf, hwh, hsh, hc, hnt, passK_shut (C := CA XT) (f := 8) rfl, QK.use y8, simprocAttr]
set_option maxHeartbeats 16000000 in
theorem tells_few {ws ss : List A} {c h o s y : Int} {net : List Mg} {J : List (List A)} {W : Nat → Nat → Nat → Ln} {N : Nat → Nat → Rp} {D : Nat → Dr} (hW : WorldR ws c h o s y) (T : StateR ss net J W N D) : EvQ CT 5 [.agg ws, .agg ss] (bo true) := by
  have hS := T.sys
  have w1 := hW.len; have w2 := hW.one; have s3 := hS.len; have s4 := hS.one; have hwt : List.take 585 ws = ws := List.take_of_length_le (by omega); have hst : List.take 69 ss = ss := List.take_of_length_le (by omega); have hwf := hW.fz; have hsf := hS.fz; have hwh := hW.shut; have hsh := hS.shut
  obtain ⟨tc, hc⟩ := T.caches.caches
  have hnt := hS.net
  have l40 := T.some
  have l8 := T.few
  have y8 : EvQ (CA XT) 8 [] (bo true) := evQ_ext (XE_hit (by simp) awake_ev)
  have x15 := XT_at (by simp) (by decide) (pshaped_ev hW T)
  have x16 := XT_at (by simp) (by decide) (rshaped_ev hW T)
  have x17 := XT_at (by simp) (by decide) (pbroken_ev hW T)
  have x18 := XT_at (by simp) (by decide) (rbroken_ev hW T)
  have z1 := XT_at (by simp) (by decide) (pSwmr_ev hW T)
  have z2 := XT_at (by simp) (by decide) (pFresh_ev hW T)
  have z3 := XT_at (by simp) (by decide) (pNoted_ev hW T)
  have z4 := XT_at (by simp) (by decide) (pPaired_ev hW T)
  have w1' := XT_at (by simp) (by decide) (rholds_ev hW T (i := 1) (by omega))
  have w2' := XT_at (by simp) (by decide) (rholds_ev hW T (i := 2) (by omega))
  have w3' := XT_at (by simp) (by decide) (rholds_ev hW T (i := 3) (by omega))
  have w4' := XT_at (by simp) (by decide) (rholds_ev hW T (i := 4) (by omega))
  simp only [i64, Int.natCast_one, Int.cast_ofNat_Int] at w1' w2' w3' w4'
  generalize hB c h o s y J.length W N net D 1 = b1 at *
  generalize hB c h o s y J.length W N net D 2 = b2 at *
  generalize hB c h o s y J.length W N net D 3 = b3 at *
  generalize hB c h o s y J.length W N net D 4 = b4 at *
  generalize rshapeB c h o s y J.length W N net D = b5 at *
  generalize brk c h o s y J.length W N net D = v6 at *
  refine evQ_of (C := CA XT) (m := fn5) CT_B (XT_none [.agg ws, .agg ss]) (by simp [fn5]) ?_
  have hm4 : 4 ≤ maxLen := by decide
  simp (disch := omega) only [go_sem, CA_T, w1, w2, s3, s4, hwt, hst, hwf, hsf, hwh, hsh, hc, hnt, hm4, simprocAttr]
  iterate 4
    rw [loop_norm (l := [2, 3, 18, 19, 20]) rfl]
    simp (disch := omega) only [go_sem, simprocAttr]
    rw [runK_loop]
    simp (disch := omega) only [go_sem, CA_T, w1, w2, s3, s4, hwt, hst, hwf, hsf, hwh, hsh, passK_shut (C := CA XT) (f := 10) rfl, QK.use z1, passK_shut (C := CA XT) (f := 11) rfl, QK.use z2, passK_shut (C := CA XT) (f := 12) rfl, QK.use z3, passK_shut (C := CA XT) (f := 13) rfl, QK.use z4, passK_shut (C := CA XT) (f := 14) rfl, QK.use w1', QK.use w2', QK.use w3', QK.use w4', bne_self_eq_false, simprocAttr]
  rw [loop_norm (l := [2, 3, 18, 19, 20]) rfl]
  simp (disch := omega) only [go_sem, simprocAttr]
  rw [runK_loop]
  simp (disch := omega) only [go_sem, CA_T, w1, w2, s3, s4, hwt, hst, hwf, hsf, hwh, hsh, passK_shut (C := CA XT) (f := 15) rfl, QK.use x15, passK_shut (C := CA XT) (f := 16) rfl, QK.use x16, passK_shut (C := CA XT) (f := 17) rfl, QK.use x17, passK_shut (C := CA XT) (f := 18) rfl, QK.use x18, passK_shut (C := CA XT) (f := 8) rfl, QK.use y8, beq_self_eq_true, simprocAttr]
theorem InvTells_ev {ws ss : List A} (hw : FitsA worldShT ws) (hs : FitsA sysSh ss) : EvQ CT 5 [.agg ws, .agg ss] (bo true) := by
  obtain ⟨c, h, o, s, y, hW⟩ := world_openT hw
  obtain ⟨net, J, W, N, D, a1, a2, a3, a4, a5, a6, a7, a8, a9⟩ := sys_open hs
  by_cases hm : net.length ≤ 40 ∧ J.length ≤ 8
  · exact tells_few hW ⟨a1, a2, a3, a4, hm.2, a5, hm.1, a6, a7⟩
  · exact tells_many hW a1 a2 a9 a8 hm
end Ev
end Go.Proofs.YtnhknhniemfnjaaGreatDoor
