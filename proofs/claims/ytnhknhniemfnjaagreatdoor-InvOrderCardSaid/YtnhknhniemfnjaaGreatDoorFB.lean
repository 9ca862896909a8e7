/- A world and a list of operations, opened. -/
import Derived.Test.YtnhknhniemfnjaaGreatDoorFits
import Derived.Test.YtnhknhniemfnjaaGreatDoorF6
set_option linter.unusedSimpArgs false
set_option linter.unusedVariables false
namespace Go.Proofs.YtnhknhniemfnjaaGreatDoor
open Go Go.RowKit Go.Proofs.YtnhknhniemfnjaaGreatDoor.Ev
set_option maxRecDepth 100000
/-- The cells of a world; of its lists only those of numbers are opened. -/
noncomputable def worldSh : List Sh := (flatO Tryz.prog (Nat.beq 5) 12 44).getD []
theorem worldSh_eq : flatO Tryz.prog (Nat.beq 5) 12 44 = some worldSh := by kernel_rfl
theorem worldSh_len : Nat.beq worldSh.length 585 = true := by kernel_rfl
theorem worldSh2 : worldSh[2]? = some (.sl [.sc (.int .u8)]) := by kernel_rfl
theorem worldSh10 : worldSh[10]? = some (.sc (.int .i64)) := by kernel_rfl
theorem flat_i8 : ∀ l : List Int, (l.map fun x => [i8 x]).flatten = l.map i8
  | [] => rfl
  | x :: l => by rw [List.map_cons, List.flatten_cons, flat_i8 l, List.map_cons]; rfl
theorem flat_P : ∀ l : List Pf, (l.map encP).flatten = encL l
  | [] => rfl
  | x :: l => by rw [List.map_cons, List.flatten_cons, flat_P l, encL]
theorem world_open {cs : List A} (h : FitsA worldSh cs) : cs.length = 585 ∧ (∃ g : Int, cs[10]? = some (i64 g)) ∧ ∃ ini : List Int, ini.length ≤ 4611686018427387904 ∧ cs[2]? = some (.sl ini.length (ini.map i8)) := by
  refine ⟨by rw [fitsA_len h]; exact Nat.eq_of_beq_eq_true worldSh_len, ?_, ?_⟩
  · obtain ⟨a, h1, h2⟩ := fitsA_get h 10 _ worldSh10
    obtain ⟨g, rfl, -⟩ := sh_i64 h2
    exact ⟨g, h1⟩
  · obtain ⟨a, h1, h2⟩ := fitsA_get h 2 _ worldSh2
    obtain ⟨L, rfl, h3, h4⟩ := sh_sl h2
    obtain ⟨l, -, rfl⟩ := lift_list (p := fun _ : Int => True) (f := fun x => [i8 x]) fun c hc => by
      obtain ⟨_, _, rfl, a0, k0⟩ := fitsA_cons (h4 c hc)
      obtain ⟨x, rfl, -⟩ := sh_u8 a0
      obtain rfl := fitsA_nil k0
      exact ⟨x, trivial, rfl⟩
    refine ⟨l, ?_, ?_⟩
    · simp only [List.length_map, reachBytes] at h3
      omega
    · rw [h1, List.length_map, flat_i8]
theorem pf_of {c : List A} (h : FitsA [.sc (.int .u8), .sc (.int .u8), .sc (.int .u8), .sc (.int .u8), .sc (.int .u8), .sc (.int .u8), .sc (.int .u8)] c) : ∃ x : Pf, x.Ok ∧ c = encP x := by
  obtain ⟨_, _, rfl, a0, h0⟩ := fitsA_cons h
  obtain ⟨x0, rfl, b0⟩ := sh_u8 a0
  obtain ⟨_, _, rfl, a1, h1⟩ := fitsA_cons h0
  obtain ⟨x1, rfl, b1⟩ := sh_u8 a1
  obtain ⟨_, _, rfl, a2, h2⟩ := fitsA_cons h1
  obtain ⟨x2, rfl, b2⟩ := sh_u8 a2
  obtain ⟨_, _, rfl, a3, h3⟩ := fitsA_cons h2
  obtain ⟨x3, rfl, b3⟩ := sh_u8 a3
  obtain ⟨_, _, rfl, a4, h4⟩ := fitsA_cons h3
  obtain ⟨x4, rfl, b4⟩ := sh_u8 a4
  obtain ⟨_, _, rfl, a5, h5⟩ := fitsA_cons h4
  obtain ⟨x5, rfl, b5⟩ := sh_u8 a5
  obtain ⟨_, _, rfl, a6, h6⟩ := fitsA_cons h5
  obtain ⟨x6, rfl, b6⟩ := sh_u8 a6
  obtain rfl := fitsA_nil h6
  exact ⟨⟨x0, x1, x2, x3, x4, x5, x6⟩, ⟨b0, b1, b2, b3, b4, b5, b6⟩, rfl⟩
theorem pf_open {a : A} (h : shFits (.sl [.sc (.int .u8), .sc (.int .u8), .sc (.int .u8), .sc (.int .u8), .sc (.int .u8), .sc (.int .u8), .sc (.int .u8)]) a) : ∃ l : List Pf, a = .sl l.length (encL l) ∧ l.length ≤ 4611686018427387904 ∧ ∀ p ∈ l, p.Ok := by
  obtain ⟨L, rfl, h1, h2⟩ := sh_sl h
  obtain ⟨l, h3, rfl⟩ := lift_list (p := Pf.Ok) (f := encP) fun c hc => pf_of (h2 c hc)
  refine ⟨l, ?_, ?_, h3⟩
  · rw [List.length_map, flat_P]
  · simp only [List.length_map, reachBytes] at h1
    omega
end Go.Proofs.YtnhknhniemfnjaaGreatDoor
