/- Walks of the statements' helpers of layer 16. -/
import Derived.Test.YtolkajcgddiceaaDoorW8
import Derived.Laws.IdiomStrings
import Derived.Lib.BufferRead
set_option linter.unusedSimpArgs false
set_option linter.unusedVariables false
namespace Go.Proofs.YtolkajcgddiceaaDoor
open Go.RowKit

/-- The string of a list of numbers. -/
def strOf (xs : List Int) : ByteArray := ⟨(xs.map fun x => UInt8.ofNat x.toNat).toArray⟩

theorem Bytes.convert {w : World} {B : Nat} {v : Value} {xs : List Int} (h : Bytes w B v xs) (hx : ∀ x ∈ xs, 0 ≤ x ∧ x ≤ 255) : (convert 28 9 v).run Tryd.prog w = .ok (.string (strOf xs)) w := by
  rcases h.2 with ⟨rfl, h2⟩ | ⟨g, cap, cur, rfl, _, hg, _, _, _, htk⟩
  · obtain rfl : xs = [] := List.eq_nil_of_length_eq_zero h2
    exact Lib.run_convert_nil_bytes w _ _ 5 0 Tryd.underlying28 Tryd.underlying5 Tryd.underlying9
  · have := run_convert_bytes_back (P := Tryd.prog) w 28 9 5 ⟨g, 0, none⟩ cap (xs.map fun x => UInt8.ofNat x.toNat) Tryd.underlying28 Tryd.underlying5 Tryd.underlying9 (by
      refine Lib.bytes_of_row hg ?_
      rw [List.length_map]
      rw [Nat.mul_one] at htk
      rw [htk]
      simp only [Lib.byteCells, List.map_map]
      refine List.map_congr_left fun x hxm => ?_
      have := hx x hxm
      simp only [Function.comp, Value.int.injEq, true_and]
      rw [UInt8.toNat_ofNat_of_lt' (show x.toNat < UInt8.size from (by have h1 : x.toNat < 256 := (by omega); exact h1))]
      omega)
    rw [List.length_map] at this
    exact this

theorem locsTo_bd (o l : Int) : ∀ k x, x ∈ locsTo o l k → 0 ≤ x ∧ x < k
  | 0, x, h => by simp [locsTo] at h
  | k + 1, x, h => by
    by_cases hk : (k : Int) / o = l
    · rw [locsTo_yes hk] at h
      rcases List.mem_append.1 h with h | h
      · have := locsTo_bd o l k x h; omega
      · simp at h; omega
    · rw [locsTo_no hk] at h
      have := locsTo_bd o l k x h
      omega

set_option maxHeartbeats 1000000 in
theorem example_any (w : World) :
    Calls Tryd.prog 25 #[] w fun e w' => e = .returned (.agg #[.int .i64 2, .int .i64 2, .int .i64 4, .int .i64 1, .int .i64 1]) ∧ Below w.heap.size w w' := by
  go_enter Tryd.func25, Tryd.ntmps25
  go_wp2
  refine bodyPost_ret (v := .agg #[.int .i64 2, .int .i64 2, .int .i64 4, .int .i64 1, .int .i64 1]) (by simp [results, Tryd.results25, go_sem]) rfl ⟨rfl, ?_⟩
  (repeat (first | with_reducible exact Below.refl _ _ | with_reducible assumption | (with_reducible refine Below.alloc ?_ (by first | omega | (simp; done) | (simp; omega)) _) | (with_reducible refine Below.setCell ?_ (by first | omega | (simp; done) | (simp; omega)) _) | (with_reducible refine Below.drew ?_) | (with_reducible refine below_drewN ?_ _)))

theorem exOk : OkG 2 2 4 1 1 := by decide
/-- Locs, read as a string. -/
def RetStr (w : World) (s : ByteArray) (e : Ending) (w' : World) : Prop := ∃ v, e = .returned v ∧ (convert 28 9 v).run Tryd.prog w' = .ok (.string s) w' ∧ Below w.heap.size w w'
theorem RetBytes.str {w : World} {xs : List Int} (hx : ∀ x ∈ xs, 0 ≤ x ∧ x ≤ 255) {e : Ending} {w' : World} : RetBytes w xs e w' → RetStr w (strOf xs) e w' := fun ⟨v, h1, h2, h3⟩ => ⟨v, h1, h2.convert hx, h3⟩
theorem locs_str {o l : Int} : ∀ x ∈ locsTo o l 6, 0 ≤ x ∧ x ≤ 255 := fun x hx => by have := locsTo_bd o l 6 x hx; omega

/-- What a new block holds it holds in every later world. -/
theorem cells_in {W w' : World} {b : Nat} {cs : Array Value} (h : Rel.Grow W w') (hc : ∀ j : Nat, W.cell? ⟨b, j, none⟩ = cs[j]?) (hb : b < W.heap.size) : ∀ j : Nat, w'.cell? ⟨b, j, none⟩ = cs[j]? := fun j => (h.cell hb).trans (hc j)
theorem cells_new (w : World) (cs : Array Value) (t : TypeId) : ∀ j : Nat, (w.alloc (.cells cs t)).cell? ⟨w.heap.size, j, none⟩ = cs[j]? := fun j => by
  have e1 := World.alloc_heap_new w (.cells cs t)
  simp only [World.cell?]
  rw [e1]
  simp
theorem strOf0 : strOf (locsTo 4 0 6) = ⟨#[0, 1, 2, 3]⟩ := by decide
theorem strOf1 : strOf (locsTo 4 1 6) = ⟨#[4, 5]⟩ := by decide
set_option maxHeartbeats 2000000 in
theorem awake_any (w : World) (hw : Bnd w) :
    Calls Tryd.prog 9 #[] w fun e w' => e = .returned (.bool true) ∧ Below w.heap.size w w' := by
  have HW := Lib.hid hw
  clear hw
  have tok : True := trivial
  go_enter Tryd.func9, Tryd.ntmps9
  go_wp2_with (first | (go_at_call 25; refine (example_any _).mono ?_; rintro e w1 ⟨rfl, hb1⟩; have HG := Lib.hid (Rel.Grow.refl (w1.alloc (.cells #[.int .i64 2, .int .i64 2, .int .i64 4, .int .i64 1, .int .i64 1] 23))); have HC := Lib.hid (cells_new w1 #[.int .i64 2, .int .i64 2, .int .i64 4, .int .i64 1, .int .i64 1] 23); have hcx := HC.out; have hsz : w1.heap.size < (w1.alloc (.cells #[.int .i64 2, .int .i64 2, .int .i64 4, .int .i64 1, .int .i64 1] 23)).heap.size := (by simp); have HB := Lib.hid ((HW.out.below hb1 HW.out.sz).alloc (.cells #[.int .i64 2, .int .i64 2, .int .i64 4, .int .i64 1, .int .i64 1] 23))) | (go_at_call 10; refine (right_yes _ _ _ _ _ _ HB.out exOk).mono ?_; rintro e w' ⟨rfl, hb⟩; (replace HG := Lib.hid (HG.out.trans hb); replace hcx := cells_in HG.out HC.out hsz; replace HB := Lib.hid (HB.out.below hb HB.out.sz); clear hb)) | (go_at_call 11; refine (Lines_yes _ _ _ _ _ _ HB.out exOk).mono ?_; rintro e w' ⟨rfl, hb⟩; (replace HG := Lib.hid (HG.out.trans hb); replace hcx := cells_in HG.out HC.out hsz; replace HB := Lib.hid (HB.out.below hb HB.out.sz); clear hb)) | (go_at_call 23; refine (Home_yes _ _ _ _ _ _ HB.out exOk 1 (by decide) (by decide)).mono ?_; rintro e w' ⟨rfl, hb⟩; (replace HG := Lib.hid (HG.out.trans hb); replace hcx := cells_in HG.out HC.out hsz; replace HB := Lib.hid (HB.out.below hb HB.out.sz); clear hb)) | (go_at_call 14; refine (Line_yes _ _ _ _ _ _ HB.out exOk 5 (by decide) (by decide)).mono ?_; rintro e w' ⟨rfl, hb⟩; (replace HG := Lib.hid (HG.out.trans hb); replace hcx := cells_in HG.out HC.out hsz; replace HB := Lib.hid (HB.out.below hb HB.out.sz); clear hb)) | (go_at_call 15; refine (Word_yes _ _ _ _ _ _ HB.out exOk 5 (by decide) (by decide)).mono ?_; rintro e w' ⟨rfl, hb⟩; (replace HG := Lib.hid (HG.out.trans hb); replace hcx := cells_in HG.out HC.out hsz; replace HB := Lib.hid (HB.out.below hb HB.out.sz); clear hb)) | (go_at_call 13; have _t := tok; refine ((Locs_yes _ _ _ _ _ _ HB.out exOk 0 (by decide) (by decide)).mono fun _ _ => RetBytes.str locs_str).mono ?_; rintro e w' ⟨v0, rfl, hconv, hb⟩; rw [strOf0] at hconv; clear tok; (replace HG := Lib.hid (HG.out.trans hb); replace hcx := cells_in HG.out HC.out hsz; replace HB := Lib.hid (HB.out.below hb HB.out.sz); clear hb)) | (go_at_call 13; refine ((Locs_yes _ _ _ _ _ _ HB.out exOk 1 (by decide) (by decide)).mono fun _ _ => RetBytes.str locs_str).mono ?_; rintro e w' ⟨v1, rfl, hconv1, hb⟩; rw [strOf1] at hconv1; (replace HG := Lib.hid (HG.out.trans hb); replace hcx := cells_in HG.out HC.out hsz; replace HB := Lib.hid (HB.out.below hb HB.out.sz); clear hb)))
  go_ret
  exact ⟨rfl, (hb1.alloc hb1.size _).trans (HG.out.below (by simp; have := hb1.size; omega))⟩
end Go.Proofs.YtolkajcgddiceaaDoor
