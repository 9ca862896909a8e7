/- The statement GeoOnce: the plain facts of its loops. -/
import Derived.Test.YtolkajcgddiceaaDoorL4
import Derived.Laws.OwnMore
set_option linter.unusedSimpArgs false
set_option linter.unusedVariables false
namespace Go.Proofs.YtolkajcgddiceaaDoor
open Go.RowKit
/-- The counts after m locations were met. -/
def met01 (j m : Nat) : Int := if j < m then 1 else 0
def metAt (m : Nat) : Array Value := #[.int .i64 (met01 0 m), .int .i64 (met01 1 m), .int .i64 (met01 2 m), .int .i64 (met01 3 m), .int .i64 (met01 4 m), .int .i64 (met01 5 m)]
/-- The block of the counts. -/
def Met (W : World) (b m : Nat) : Prop := W.heap[b]? = some (.cells (metAt m) 27 (0, 0))
theorem Met.grow {W W' : World} {b m : Nat} (h : Met W b m) (hg : Rel.Grow W W') (hb : b < W.heap.size) : Met W' b m := (hg.block b hb).trans h
theorem Met.lt {W : World} {b m : Nat} (h : Met W b m) : b < W.heap.size := (Array.getElem?_eq_some_iff.1 h).1
theorem Met.cell {W : World} {b m : Nat} (h : Met W b m) (x : Nat) (hx : x < 6) : W.cell? ⟨b, x, none⟩ = some (.int .i64 (met01 x m)) := by
  have e : W.cell? ⟨b, x, none⟩ = (metAt m)[x]? := by
    simp only [World.cell?]
    rw [h]
    simp
  rw [e]
  match x, hx with
  | 0, _ => rfl
  | 1, _ => rfl
  | 2, _ => rfl
  | 3, _ => rfl
  | 4, _ => rfl
  | 5, _ => rfl
theorem Met.frozen {W : World} {b m : Nat} (h : Met W b m) (x : Nat) : W.frozen? ⟨b, x, none⟩ = some false := by
  simp only [World.frozen?]
  rw [h]
  simp
theorem Met.set {W : World} {b m : Nat} (h : Met W b m) (hm : m < 6) : Met (W.setCell ⟨b, m, none⟩ (.int .i64 1)) b (m + 1) := by
  unfold Met World.setCell
  rw [Array.getElem?_modify]
  simp only [if_true]
  rw [h]
  have hc : m = 0 ∨ m = 1 ∨ m = 2 ∨ m = 3 ∨ m = 4 ∨ m = 5 := by omega
  rcases hc with rfl | rfl | rfl | rfl | rfl | rfl <;> simp [metAt, met01]
theorem Met.new (w : World) : Met (w.alloc (.cells #[.int .i64 0, .int .i64 0, .int .i64 0, .int .i64 0, .int .i64 0, .int .i64 0] 27)) w.heap.size 0 := World.alloc_heap_new w _

/-- The row of one line's locations. -/
def RetRow (w : World) (x0 L : Nat) (e : Ending) (w' : World) : Prop := ∃ (g cap : Nat), e = .returned (.slice (some ⟨g, 0, none⟩) L cap) ∧ (∀ i : Nat, i < L → w'.cell? ⟨g, i, none⟩ = some (.int .u8 ((x0 + i : Nat) : Int))) ∧ w.heap.size ≤ g ∧ g < w'.heap.size ∧ Below w.heap.size w w'
theorem RetBytes.row {w : World} {xs : List Int} {x0 L : Nat} (hL : 0 < L) (hlen : xs.length = L) (hx : ∀ i : Nat, i < L → xs[i]? = Option.some ((x0 + i : Nat) : Int)) {e : Ending} {w' : World} : RetBytes w xs e w' → RetRow w x0 L e w' := fun ⟨v, h1, h2, h3⟩ => by
  rcases id h2.2 with ⟨rfl, hz⟩ | ⟨g, cap, cur, rfl, hbase, hg, _⟩
  · omega
  · refine ⟨g, cap, by rw [h1, hlen], fun i hi => ?_, hbase, (Array.getElem?_eq_some_iff.1 hg).1, h3⟩
    have := World.ownsRow.cellAt h2 i (by omega)
    rw [this, List.getElem?_map, hx i hi]
    rfl
def rowLen (oo nn : Nat) : Nat := min oo (6 - oo * nn)
theorem shape1 : ∀ oo : Nat, oo < 5 → ∀ nn : Nat, nn < 6 → 1 ≤ oo → (nn : Int) ≤ 5 / (oo : Int) → 0 < rowLen oo nn ∧ rowLen oo nn ≤ oo ∧ oo * nn + rowLen oo nn ≤ 6 ∧ (locsTo oo nn 6).length = rowLen oo nn := by
  intro oo h5 nn h6 h1 hq
  have ho : oo = 1 ∨ oo = 2 ∨ oo = 3 ∨ oo = 4 := by omega
  have hn : nn = 0 ∨ nn = 1 ∨ nn = 2 ∨ nn = 3 ∨ nn = 4 ∨ nn = 5 := by omega
  clear h5 h6 h1
  rcases ho with rfl | rfl | rfl | rfl <;> rcases hn with rfl | rfl | rfl | rfl | rfl | rfl <;> first | (exfalso; revert hq; decide) | decide
theorem shape2 : ∀ oo : Nat, oo < 5 → ∀ nn : Nat, nn < 6 → 1 ≤ oo → (nn : Int) ≤ 5 / (oo : Int) → ∀ i : Nat, i < 4 → i < rowLen oo nn → (locsTo oo nn 6)[i]? = some ((oo * nn + i : Nat) : Int) := by
  intro oo h5 nn h6 h1 hq i hi hl
  have ho : oo = 1 ∨ oo = 2 ∨ oo = 3 ∨ oo = 4 := by omega
  have hn : nn = 0 ∨ nn = 1 ∨ nn = 2 ∨ nn = 3 ∨ nn = 4 ∨ nn = 5 := by omega
  have hi4 : i = 0 ∨ i = 1 ∨ i = 2 ∨ i = 3 := by omega
  clear h5 h6 h1 hi
  rcases ho with rfl | rfl | rfl | rfl <;> rcases hn with rfl | rfl | rfl | rfl | rfl | rfl <;> first | (exfalso; revert hq; decide) | (rcases hi4 with rfl | rfl | rfl | rfl <;> first | (exfalso; revert hl; decide) | decide)
theorem shape3 : ∀ oo : Nat, oo < 5 → ∀ nn : Nat, nn < 6 → 1 ≤ oo → (nn : Int) ≤ 5 / (oo : Int) → ∀ i : Nat, i < 4 → i < rowLen oo nn → ((oo * nn + i : Nat) : Int) / (oo : Int) = nn ∧ ((oo * nn + i : Nat) : Int) % (oo : Int) = i := by
  intro oo h5 nn h6 h1 hq i hi hl
  have ho : oo = 1 ∨ oo = 2 ∨ oo = 3 ∨ oo = 4 := by omega
  have hn : nn = 0 ∨ nn = 1 ∨ nn = 2 ∨ nn = 3 ∨ nn = 4 ∨ nn = 5 := by omega
  have hi4 : i = 0 ∨ i = 1 ∨ i = 2 ∨ i = 3 := by omega
  clear h5 h6 h1 hi
  rcases ho with rfl | rfl | rfl | rfl <;> rcases hn with rfl | rfl | rfl | rfl | rfl | rfl <;> first | (exfalso; revert hq; decide) | (rcases hi4 with rfl | rfl | rfl | rfl <;> first | (exfalso; revert hl; decide) | decide)
theorem shape4 : ∀ oo : Nat, oo < 5 → ∀ nn : Nat, nn < 6 → 1 ≤ oo → (nn : Int) ≤ 5 / (oo : Int) → (oo * nn + rowLen oo nn = 6 ∧ 6 ≤ oo * (nn + 1)) ∨ oo * nn + rowLen oo nn = oo * (nn + 1) := by
  intro oo h5 nn h6 h1 hq
  have ho : oo = 1 ∨ oo = 2 ∨ oo = 3 ∨ oo = 4 := by omega
  have hn : nn = 0 ∨ nn = 1 ∨ nn = 2 ∨ nn = 3 ∨ nn = 4 ∨ nn = 5 := by omega
  clear h5 h6 h1
  rcases ho with rfl | rfl | rfl | rfl <;> rcases hn with rfl | rfl | rfl | rfl | rfl | rfl <;> first | (exfalso; revert hq; decide) | decide
/-- The shape of a line's locations. -/
theorem locs_shape {o : Int} (ho : 1 ≤ o) (ho' : o ≤ 4) (n : Nat) (hn : (n : Int) ≤ 5 / o) : ∃ x0 L : Nat, (x0 : Int) = o * n ∧ 0 < L ∧ (L : Int) ≤ o ∧ x0 + L ≤ 6 ∧ (locsTo o n 6).length = L ∧ (∀ i : Nat, i < L → (locsTo o n 6)[i]? = some ((x0 + i : Nat) : Int)) ∧ (∀ i : Nat, i < L → ((x0 + i : Nat) : Int) / o = n ∧ ((x0 + i : Nat) : Int) % o = i) ∧ ((x0 + L = 6 ∧ 6 ≤ o * (n + 1)) ∨ (x0 : Int) + L = o * (n + 1)) := by
  have h5 := five_div ho ho'
  obtain ⟨oo, rfl⟩ : ∃ oo : Nat, o = oo := ⟨o.toNat, by omega⟩
  have h1 : oo < 5 := by omega
  have h2 : n < 6 := by omega
  have h3 : 1 ≤ oo := by omega
  obtain ⟨a1, a2, a3, a4⟩ := shape1 oo h1 n h2 h3 hn
  have hb := shape2 oo h1 n h2 h3 hn
  have hc := shape3 oo h1 n h2 h3 hn
  have hd := shape4 oo h1 n h2 h3 hn
  refine ⟨oo * n, rowLen oo n, Int.natCast_mul _ _, a1, by omega, a3, a4, fun i hi => hb i (by omega) hi, fun i hi => hc i (by omega) hi, ?_⟩
  rcases hd with ⟨e1, e2⟩ | e
  · exact .inl ⟨e1, by have := Int.ofNat_le.2 e2; simpa using this⟩
  · exact .inr (by have := congrArg (Nat.cast (R := Int)) e; simpa using this)
/-- Behind the last line there is none. -/
theorem locs_none {o : Int} (ho : 1 ≤ o) (ho' : o ≤ 4) (n : Nat) (hn : ¬ (n : Int) ≤ 5 / o) : (locsTo o n 6).length = 0 := by
  have : ∀ k, k ≤ 6 → locsTo o n k = [] := by
    intro k
    induction k with
    | zero => intro _; rfl
    | succ k ih =>
      intro hk
      rw [locsTo_no, ih (by omega)]
      have : (k : Int) / o ≤ 5 / o := Int.ediv_le_ediv (by omega) (by omega)
      omega
  rw [this 6 (by omega)]
  rfl
/-- m locations were met when k lines are done. -/
def OnceM (o : Int) (k m : Nat) : Prop := m ≤ 6 ∧ ((m = 6 ∧ 6 ≤ o * (k : Int)) ∨ (m : Int) = o * (k : Int))
theorem OnceM.row {o : Int} {k m x0 L : Nat} (h : OnceM o k m) (h0 : (x0 : Int) = o * k) (hL : 0 < L) (h6 : x0 + L ≤ 6) (hn : (x0 + L = 6 ∧ 6 ≤ o * (k + 1)) ∨ (x0 : Int) + L = o * (k + 1)) : m = x0 ∧ OnceM o (k + 1) (x0 + L) := by
  obtain ⟨ha, hb⟩ := h
  refine ⟨by omega, h6, ?_⟩
  rw [Int.natCast_add, Int.natCast_add]
  simpa using hn
theorem OnceM.none {o : Int} {k m : Nat} (ho : 1 ≤ o) (ho' : o ≤ 4) (h : OnceM o k m) (hn : ¬ (k : Int) ≤ 5 / o) : OnceM o (k + 1) m := by
  obtain ⟨ha, hb⟩ := h
  refine ⟨ha, ?_⟩
  have hc : o = 1 ∨ o = 2 ∨ o = 3 ∨ o = 4 := by omega
  rcases hc with rfl | rfl | rfl | rfl <;> omega
theorem OnceM.done {o : Int} {m : Nat} (ho : 1 ≤ o) (h : OnceM o 256 m) : m = 6 := by
  obtain ⟨ha, hb⟩ := h
  have : (256 : Int) ≤ o * 256 := by omega
  rcases hb with hb | hb
  · exact hb.1
  · have e : ((256 : Nat) : Int) = 256 := rfl
    rw [e] at hb
    omega
end Go.Proofs.YtolkajcgddiceaaDoor
