/- Core: lists of instructions and stores among a law's arguments. -/
import Derived.Test.YtkpolehpdgnliaaOpen
import Derived.Test.YtkpolehpdgnliaaF3
set_option linter.unusedSimpArgs false
set_option linter.unusedVariables false
namespace Go.Proofs.Ytkpolehpdgnliaa
open Go Go.RowKit Go.Proofs.Ytkpolehpdgnliaa.Ev
theorem ins_of {c : List A} (h : FitsA [.sc (.int .u8), .sc (.int .u8), .sc (.int .u8), .sc .bool, .sc (.int .u8), .sc .bool, .sc (.int .u8), .sc (.int .u8), .sc (.int .u8), .sc (.int .u8)] c) : ∃ x : Pl.Ins, x.Ok ∧ c = encI x := by
  obtain ⟨_, _, rfl, a0, h0⟩ := fitsA_cons h
  obtain ⟨x0, rfl, b0⟩ := sh_u8 a0
  obtain ⟨_, _, rfl, a1, h1⟩ := fitsA_cons h0
  obtain ⟨x1, rfl, b1⟩ := sh_u8 a1
  obtain ⟨_, _, rfl, a2, h2⟩ := fitsA_cons h1
  obtain ⟨x2, rfl, b2⟩ := sh_u8 a2
  obtain ⟨_, _, rfl, a3, h3⟩ := fitsA_cons h2
  obtain ⟨x3, rfl⟩ := sh_bool a3
  obtain ⟨_, _, rfl, a4, h4⟩ := fitsA_cons h3
  obtain ⟨x4, rfl, b4⟩ := sh_u8 a4
  obtain ⟨_, _, rfl, a5, h5⟩ := fitsA_cons h4
  obtain ⟨x5, rfl⟩ := sh_bool a5
  obtain ⟨_, _, rfl, a6, h6⟩ := fitsA_cons h5
  obtain ⟨x6, rfl, b6⟩ := sh_u8 a6
  obtain ⟨_, _, rfl, a7, h7⟩ := fitsA_cons h6
  obtain ⟨x7, rfl, b7⟩ := sh_u8 a7
  obtain ⟨_, _, rfl, a8, h8⟩ := fitsA_cons h7
  obtain ⟨x8, rfl, b8⟩ := sh_u8 a8
  obtain ⟨_, _, rfl, a9, h9⟩ := fitsA_cons h8
  obtain ⟨x9, rfl, b9⟩ := sh_u8 a9
  obtain rfl := fitsA_nil h9
  exact ⟨⟨x0, x1, x2, x3, x4, x5, x6, x7, x8, x9⟩, ⟨b0, b1, b2, b4, b6, b7, b8, b9⟩, rfl⟩
theorem open_ins {a : A} (h : shFits (.sl [.sc (.int .u8), .sc (.int .u8), .sc (.int .u8), .sc .bool, .sc (.int .u8), .sc .bool, .sc (.int .u8), .sc (.int .u8), .sc (.int .u8), .sc (.int .u8)]) a) : ∃ l : List Pl.Ins, a = insA l ∧ (l.length : Int) ≤ 200000000000000 ∧ ∀ x ∈ l, x.Ok := by
  obtain ⟨L, rfl, h1, h2⟩ := sh_sl h
  obtain ⟨l, h3, rfl⟩ := lift_list (p := Pl.Ins.Ok) (f := encI) fun c hc => ins_of (h2 c hc)
  refine ⟨l, ?_, ?_, h3⟩
  · simp only [List.length_map, insA, insC, List.flatMap]
  · simp only [List.length_map, reachBytes] at h1
    omega
theorem open_buf {a : A} (h : shFits (.sl [.sc (.int .u8), .sc (.int .u8)]) a) : ∃ l : List (Int × Int), a = bufA l ∧ (l.length : Int) ≤ 200000000000000 ∧ ∀ p ∈ l, (0 ≤ p.1 ∧ p.1 ≤ 255) ∧ 0 ≤ p.2 ∧ p.2 ≤ 255 := by
  obtain ⟨L, rfl, h1, h2⟩ := sh_sl h
  obtain ⟨l, h3, rfl⟩ := lift_list (p := fun p : Int × Int => (0 ≤ p.1 ∧ p.1 ≤ 255) ∧ 0 ≤ p.2 ∧ p.2 ≤ 255) (f := fun p => [i8 p.1, i8 p.2]) fun c hc => by
    obtain ⟨_, _, rfl, a0, k0⟩ := fitsA_cons (h2 c hc)
    obtain ⟨x0, rfl, b0⟩ := sh_u8 a0
    obtain ⟨_, _, rfl, a1, k1⟩ := fitsA_cons k0
    obtain ⟨x1, rfl, b1⟩ := sh_u8 a1
    obtain rfl := fitsA_nil k1
    exact ⟨(x0, x1), ⟨b0, b1⟩, rfl⟩
  refine ⟨l, ?_, ?_, h3⟩
  · simp only [List.length_map, bufA, bufC, List.flatMap]
  · simp only [List.length_map, reachBytes] at h1
    omega
theorem regs_ok {g0 g1 g2 g3 g4 g5 g6 g7 : Int} (h0 : 0 ≤ g0 ∧ g0 ≤ 255) (h1 : 0 ≤ g1 ∧ g1 ≤ 255) (h2 : 0 ≤ g2 ∧ g2 ≤ 255) (h3 : 0 ≤ g3 ∧ g3 ≤ 255) (h4 : 0 ≤ g4 ∧ g4 ≤ 255) (h5 : 0 ≤ g5 ∧ g5 ≤ 255) (h6 : 0 ≤ g6 ∧ g6 ≤ 255) (h7 : 0 ≤ g7 ∧ g7 ≤ 255) :
    ∀ i : Nat, 0 ≤ [g0, g1, g2, g3, g4, g5, g6, g7].getD i 0 ∧ [g0, g1, g2, g3, g4, g5, g6, g7].getD i 0 ≤ 255
  | 0 => h0
  | 1 => h1
  | 2 => h2
  | 3 => h3
  | 4 => h4
  | 5 => h5
  | 6 => h6
  | 7 => h7
  | n + 8 => by simp
end Go.Proofs.Ytkpolehpdgnliaa
