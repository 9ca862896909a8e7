/- Walks of package geo: the locations of a line, by the reference. -/
import Derived.Test.YtolkajcgddiceaaDoorW5
set_option linter.unusedSimpArgs false
set_option linter.unusedVariables false
namespace Go.Proofs.YtolkajcgddiceaaDoor
open Go.RowKit

/-- The locations below k of line l. -/
def locsTo (o l : Int) : Nat → List Int
  | 0 => []
  | k + 1 => if (k : Int) / o = l then locsTo o l k ++ [(k : Int)] else locsTo o l k
theorem locsTo_yes {o l : Int} {k : Nat} (h : (k : Int) / o = l) : locsTo o l (k + 1) = locsTo o l k ++ [(k : Int)] := by simp [locsTo, h]
theorem locsTo_no {o l : Int} {k : Nat} (h : ¬ (k : Int) / o = l) : locsTo o l (k + 1) = locsTo o l k := by simp [locsTo, h]
theorem locsTo_len (o l : Int) : ∀ k, (locsTo o l k).length ≤ k
  | 0 => by simp [locsTo]
  | k + 1 => by
    have := locsTo_len o l k
    by_cases h : (k : Int) / o = l
    · rw [locsTo_yes h]; simp; omega
    · rw [locsTo_no h]; omega

theorem Tryd.info5 : (Tryd.prog.info? 5).map (fun i => (i.zero, i.size, i.bytes)) = some (some (.int .u8 0), 1, 1) := by kernel_rfl

/-- A slice of bytes that a call has made. -/
def Bytes (w' : World) (B : Nat) (v : Value) (xs : List Int) : Prop := w'.ownsRow B 5 1 v xs.length (xs.map (Value.int .u8))
/-- What a function that makes a slice of bytes hands back. -/
def RetBytes (w : World) (xs : List Int) (e : Ending) (w' : World) : Prop := ∃ v, e = .returned v ∧ Bytes w' w.heap.size v xs ∧ Below w.heap.size w w'

theorem ownsRow_grow {w w' : World} {base : Nat} {e : TypeId} {size : Nat} {v : Value} {n : Nat} {xs : List Value} (h : w.ownsRow base e size v n xs) (hb : Below w.heap.size w w') : w'.ownsRow base e size v n xs := by
  refine ⟨h.1, ?_⟩
  rcases h.2 with h2 | ⟨g, cap, cur, hv, hg, hh, r⟩
  · exact Or.inl h2
  · exact Or.inr ⟨g, cap, cur, hv, hg, by rw [hb.block _ (Array.getElem?_eq_some_iff.1 hh).1]; exact hh, r⟩
theorem ownsRow_base {w : World} {base base' : Nat} {e : TypeId} {size : Nat} {v : Value} {n : Nat} {xs : List Value} (h : w.ownsRow base e size v n xs) (hb : base' ≤ base) : w.ownsRow base' e size v n xs := by
  refine ⟨h.1, ?_⟩
  rcases h.2 with h2 | ⟨g, cap, cur, hv, hg, r⟩
  · exact Or.inl h2
  · exact Or.inr ⟨g, cap, cur, hv, by omega, r⟩
theorem rLine_is (c h o s y : Int) (w : World) (hk : OkG c h o s y) (l : Int) (hl : 0 ≤ l) (hl' : l ≤ 255) (m : Int) (hm : l / o = m) :
    Calls Tryd.prog 32 #[.agg #[.int .i64 c, .int .i64 h, .int .i64 o, .int .i64 s, .int .i64 y], .int .u8 l] w fun e w' => e = .returned (.int .u8 m) ∧ Below w.heap.size w w' := hm ▸ rLine_yes c h o s y w hk l hl hl'

set_option maxHeartbeats 1000000 in
theorem rLocs_yes (c h o s y : Int) (w : World) (hk : OkG c h o s y) (l : Int) (hl : 0 ≤ l) (hl' : l ≤ 255) :
    Calls Tryd.prog 39 #[.agg #[.int .i64 c, .int .i64 h, .int .i64 o, .int .i64 s, .int .i64 y], .int .u8 l] w (RetBytes w (locsTo o l 6)) := by
  have HK := Lib.hid hk
  clear hk
  obtain ⟨i0, hi, iz0, iz1, iz2⟩ := info_parts Tryd.info5
  go_enter Tryd.func39, Tryd.ntmps39
  go_wp2
  go_loopw [5, 6] (fun v i wr => ∃ k : Nat, k ≤ 6 ∧ i = .int .u8 k ∧ wr.ownsRow (w.heap.size + 1) 5 1 v (locsTo o l k).length ((locsTo o l k).map (Value.int .u8)) ∧ Below (w.heap.size + 1) (w.alloc (.cells #[.int .i64 c, .int .i64 h, .int .i64 o, .int .i64 s, .int .i64 y] 23)) wr)
    (fun _ i _ => 6 - (intOf i).toNat)
  case atStart => exact ⟨0, by omega, rfl, World.ownsRow_nil _ _ _ _, Below.refl _ _⟩
  case round =>
    obtain ⟨k, hk6, rfl, hown, hb0⟩ := hrel
    have HE := Lib.hid hb0
    have hcx : ∀ j, wr.cell? ⟨w.heap.size, j, none⟩ = (w.alloc (.cells #[.int .i64 c, .int .i64 h, .int .i64 o, .int .i64 s, .int .i64 y] 23)).cell? ⟨w.heap.size, j, none⟩ := fun j => hb0.cell (p := ⟨w.heap.size, j, none⟩) (by simp)
    have hsz := hb0.size
    simp at hsz
    have hsz' : w.heap.size < wr.heap.size := by omega
    have HO := Lib.hid hown
    clear hown hb0
    by_cases hlt : k < 6
    · have hbd : (0 : Int) ≤ k := by omega
      have hbd' : (k : Int) ≤ 255 := by omega
      by_cases he : (k : Int) / o = l
      · have HL := Lib.hid he
        clear he
        go_wp2_with (first
          | (go_at_call 30; refine (rright_yes _ _ _ _ _ _ HK.out).mono ?_; rintro e w1 ⟨rfl, hb1⟩; obtain ⟨hc, hf⟩ := bcell hb1; have hz := hb1.size; have hz1 : w.heap.size < w1.heap.size := (by omega))
          | (go_at_call 32; refine (rLine_is _ _ _ _ _ _ HK.out _ hbd hbd' _ HL.out).mono ?_; rintro e w2 ⟨rfl, hb2⟩; obtain ⟨hc2, hf2⟩ := bcell hb2; have hz2 := hb2.size; have hz3 : w.heap.size < w2.heap.size := (by omega); have HO2 := Lib.hid (ownsRow_grow (ownsRow_grow HO.out hb1) hb2))
          | (at_builtin; refine wpList_append_own _ rfl _ _ 28 rfl (w.heap.size + 1) 5 i0 (.int .u8 0) 1 1 Tryd.underlying28 hi iz0 iz1 iz2 rfl (by decide) _ _ _ rfl (HO2.out.alloc _) ⟨w2.heap.size, 0, none⟩ 1 1 [.int .u8 k] rfl rfl ?c1 ?c2 ?c3 ?c4 ?c5 ?_))
        case c1 =>
          intro j u hj
          match j, hj with
          | 0, hj => simp at hj; subst hj; simp [Addr.add]
        case c2 => intro u hu; simp at hu; subst hu; rfl
        case c3 => have := locsTo_len o l k; unfold maxLen; omega
        case c4 => have := locsTo_len o l k; omega
        case c5 => simp; omega
        · intro v' w3 hown' hgrow _
          have hlt : k < 6 := by assumption
          have hB : Below (w.heap.size + 1) (w.alloc (.cells #[.int .i64 c, .int .i64 h, .int .i64 o, .int .i64 s, .int .i64 y] 23)) w3 :=
            ((HE.out.trans ((hb1.trans (hb2.mono hb1.size)).mono (by omega))).alloc (by omega) _).grown hgrow (by simp; omega) (fun q hq => (HO2.out.lt q hq).1)
          have HB := Lib.hid hB
          have hown3 : w3.ownsRow (w.heap.size + 1) 5 1 v' (locsTo o l (k + 1)).length ((locsTo o l (k + 1)).map (Value.int .u8)) := by
            rw [locsTo_yes HL.out]; simpa using hown'
          have HO3 := Lib.hid hown3
          clear hown3 hown' hgrow hB HO2 HO hb1 hb2 hc hc2 hf hf2 hcx
          go_wp2
          go_roundw
          case rel => exact ⟨k + 1, by omega, by go_num, HO3.out, HB.out⟩
          case measure => simp [intOf]; omega
      · have hno : ((k : Int) / o == l) = false := by simpa using he
        have HN := Lib.hid he
        clear he
        go_wp2_with (first
          | (go_at_call 30; refine (rright_yes _ _ _ _ _ _ HK.out).mono ?_; rintro e w1 ⟨rfl, hb1⟩; obtain ⟨hc, hf⟩ := bcell hb1; have hz := hb1.size; have hz1 : w.heap.size < w1.heap.size := (by omega))
          | (go_at_call 32; refine (rLine_yes _ _ _ _ _ _ HK.out _ hbd hbd').mono ?_; rintro e w2 ⟨rfl, hb2⟩; obtain ⟨hc2, hf2⟩ := bcell hb2; have hz2 := hb2.size; have hz3 : w.heap.size < w2.heap.size := (by omega); have HO2 := Lib.hid (ownsRow_grow (ownsRow_grow HO.out hb1) hb2)))
        go_roundw
        case rel => exact ⟨k + 1, by omega, by go_num, by rw [locsTo_no HN.out]; exact HO2.out, HE.out.trans ((hb1.trans (hb2.mono hb1.size)).mono (by omega))⟩
        case measure => simp [intOf]; omega
    · obtain rfl : k = 6 := by omega
      go_wp2
      go_ret
      exact ⟨_, rfl, ownsRow_base HO.out (by omega), ((Below.refl w.heap.size w).alloc (Nat.le_refl _) _).trans (HE.out.mono (by omega))⟩

set_option maxHeartbeats 1000000 in
theorem rLocs_no (c h o s y : Int) (w : World) (hk : ¬ OkG c h o s y) (l : Int) (hl : 0 ≤ l) (hl' : l ≤ 255) :
    Calls Tryd.prog 39 #[.agg #[.int .i64 c, .int .i64 h, .int .i64 o, .int .i64 s, .int .i64 y], .int .u8 l] w (RetBytes w []) := by
  have HK := Lib.hid hk
  clear hk
  go_enter Tryd.func39, Tryd.ntmps39
  go_wp2
  refine wp_loop_rounds 1 ?_
  rw [rounds_succ]
  go_wp2_with (go_at_call 30; refine (rright_no _ _ _ _ _ _ HK.out).mono ?_; rintro e w1 ⟨rfl, hb1⟩)
  go_ret
  exact ⟨_, rfl, World.ownsRow_nil _ _ _ _, Below.after hb1 ((Below.refl w.heap.size w).alloc (Nat.le_refl _) _) (by simp)⟩

theorem Bytes.form {w : World} {B : Nat} {v : Value} {xs : List Int} (h : Bytes w B v xs) : ∃ a cap, v = .slice a xs.length cap := by
  rcases h.2 with ⟨h1, h2⟩ | ⟨g, cap, cur, h1, _⟩
  · exact ⟨none, 0, by rw [h1, h2]⟩
  · exact ⟨_, cap, h1⟩
/-- A slice that is not empty. -/
def RetSome (w : World) (e : Ending) (w' : World) : Prop := ∃ (a : Option Addr) (n cap : Nat), (0 : Int) < n ∧ e = .returned (.slice a n cap) ∧ Below w.heap.size w w'
/-- A slice that is empty. -/
def RetNone (w : World) (e : Ending) (w' : World) : Prop := ∃ (a : Option Addr) (cap : Nat), e = .returned (.slice a 0 cap) ∧ Below w.heap.size w w'
theorem RetBytes.some {w : World} {xs : List Int} (h : 0 < xs.length) {e : Ending} {w' : World} : RetBytes w xs e w' → RetSome w e w' := fun ⟨v, h1, h2, h3⟩ => by
  obtain ⟨a, cap, rfl⟩ := h2.form
  exact ⟨a, _, cap, by omega, h1, h3⟩
theorem RetBytes.none {w : World} {xs : List Int} (h : xs.length = 0) {e : Ending} {w' : World} : RetBytes w xs e w' → RetNone w e w' := fun ⟨v, h1, h2, h3⟩ => by
  obtain ⟨a, cap, rfl⟩ := h2.form
  exact ⟨a, cap, by rw [h1, h], h3⟩

theorem locs_pos {o : Int} {k : Nat} (ho : 1 ≤ o) (ho' : o ≤ 4) (hk : k < 6) : 0 < (locsTo o k 6).length ↔ (k : Int) ≤ 5 / o := by
  have h1 : o = 1 ∨ o = 2 ∨ o = 3 ∨ o = 4 := by omega
  have h2 : k = 0 ∨ k = 1 ∨ k = 2 ∨ k = 3 ∨ k = 4 ∨ k = 5 := by omega
  rcases h1 with rfl | rfl | rfl | rfl <;> rcases h2 with rfl | rfl | rfl | rfl | rfl | rfl <;> decide
theorem five_div {o : Int} (ho : 1 ≤ o) (ho' : o ≤ 4) : 0 ≤ 5 / o ∧ 5 / o ≤ 5 := by
  have h1 : o = 1 ∨ o = 2 ∨ o = 3 ∨ o = 4 := by omega
  rcases h1 with rfl | rfl | rfl | rfl <;> decide

set_option maxHeartbeats 1000000 in
theorem rLines_yes (c h o s y : Int) (w : World) (hk : OkG c h o s y) :
    Calls Tryd.prog 36 #[.agg #[.int .i64 c, .int .i64 h, .int .i64 o, .int .i64 s, .int .i64 y]] w fun e w' => e = .returned (.int .i64 (5 / o + 1)) ∧ Below w.heap.size w w' := by
  obtain ⟨e1, e2⟩ := five_div hk.o1 hk.o2
  have hp : ∀ k : Nat, k < 6 → (0 < (locsTo o k 6).length ↔ (k : Int) ≤ 5 / o) := fun k hk' => locs_pos hk.o1 hk.o2 hk'
  have HP := Lib.hid hp
  clear hp
  have HK := Lib.hid hk
  clear hk
  obtain ⟨q, hq⟩ : ∃ q, 5 / o = q := ⟨_, rfl⟩
  rw [hq] at e1 e2 HP ⊢
  clear hq
  go_enter Tryd.func36, Tryd.ntmps36
  go_wp2
  go_loopw [3, 4] (fun n i wr => ∃ k : Nat, k ≤ 6 ∧ i = .int .u8 k ∧ (∃ m : Int, 0 ≤ m ∧ m ≤ 6 ∧ n = .int .i64 m ∧ (m = k ∧ (k : Int) ≤ q + 1 ∨ m = q + 1 ∧ q + 1 ≤ (k : Int))) ∧ Below (w.heap.size + 1) (w.alloc (.cells #[.int .i64 c, .int .i64 h, .int .i64 o, .int .i64 s, .int .i64 y] 23)) wr)
    (fun _ i _ => 6 - (intOf i).toNat)
  case atStart => exact ⟨0, by omega, rfl, ⟨0, by omega, by omega, rfl, by omega⟩, Below.refl _ _⟩
  case round =>
    obtain ⟨k, hk6, rfl, ⟨m, hm0, hm6, rfl, hm⟩, hb0⟩ := hrel
    have HE := Lib.hid hb0
    have hcx : ∀ j, wr.cell? ⟨w.heap.size, j, none⟩ = (w.alloc (.cells #[.int .i64 c, .int .i64 h, .int .i64 o, .int .i64 s, .int .i64 y] 23)).cell? ⟨w.heap.size, j, none⟩ := fun j => hb0.cell (p := ⟨w.heap.size, j, none⟩) (by simp)
    have hsz := hb0.size
    simp at hsz
    have hsz' : w.heap.size < wr.heap.size := by omega
    have HM := Lib.hid hm
    clear hb0 hm
    by_cases hlt : k < 6
    · have hbd : (0 : Int) ≤ k := by omega
      have hbd' : (k : Int) ≤ 255 := by omega
      by_cases hq : (k : Int) ≤ q
      · go_wp2_with (go_at_call 39; refine ((rLocs_yes _ _ _ _ _ _ HK.out _ hbd hbd').mono fun _ _ => RetBytes.some ((HP.out k hlt).2 hq)).mono ?_; rintro e w1 ⟨a1, n1, cap1, hn1, rfl, hb1⟩)
        go_roundw
        case rel => exact ⟨k + 1, by omega, by go_num, ⟨m + 1, by omega, by have := HM.out; omega, by go_num, by have := HM.out; omega⟩, HE.out.trans (hb1.mono (by omega))⟩
        case measure => simp [intOf]; omega
      · have hno : (locsTo o k 6).length = 0 := by have := mt (HP.out k hlt).1 hq; omega
        have HNO := Lib.hid hno
        clear hno
        go_wp2_with (go_at_call 39; refine ((rLocs_yes _ _ _ _ _ _ HK.out _ hbd hbd').mono fun _ _ => RetBytes.none HNO.out).mono ?_; rintro e w1 ⟨a1, cap1, rfl, hb1⟩)
        go_roundw
        case rel => exact ⟨k + 1, by omega, by go_num, ⟨m, by omega, by omega, by go_num, by have := HM.out; omega⟩, HE.out.trans (hb1.mono (by omega))⟩
        case measure => simp [intOf]; omega
    · obtain rfl : k = 6 := by omega
      go_wp2
      go_ret
      exact ⟨ret_int (by have := HM.out; omega), ((Below.refl w.heap.size w).alloc (Nat.le_refl _) _).trans (HE.out.mono (by omega))⟩
set_option maxHeartbeats 1000000 in
theorem rLines_no (c h o s y : Int) (w : World) (hk : ¬ OkG c h o s y) :
    Calls Tryd.prog 36 #[.agg #[.int .i64 c, .int .i64 h, .int .i64 o, .int .i64 s, .int .i64 y]] w fun e w' => e = .returned (.int .i64 0) ∧ Below w.heap.size w w' := by
  have HK := Lib.hid hk
  clear hk
  go_enter Tryd.func36, Tryd.ntmps36
  go_wp2
  go_loopw [3, 4] (fun n i wr => ∃ k : Nat, k ≤ 6 ∧ i = .int .u8 k ∧ n = .int .i64 0 ∧ Below (w.heap.size + 1) (w.alloc (.cells #[.int .i64 c, .int .i64 h, .int .i64 o, .int .i64 s, .int .i64 y] 23)) wr)
    (fun _ i _ => 6 - (intOf i).toNat)
  case atStart => exact ⟨0, by omega, rfl, rfl, Below.refl _ _⟩
  case round =>
    obtain ⟨k, hk6, rfl, rfl, hb0⟩ := hrel
    have HE := Lib.hid hb0
    have hcx : ∀ j, wr.cell? ⟨w.heap.size, j, none⟩ = (w.alloc (.cells #[.int .i64 c, .int .i64 h, .int .i64 o, .int .i64 s, .int .i64 y] 23)).cell? ⟨w.heap.size, j, none⟩ := fun j => hb0.cell (p := ⟨w.heap.size, j, none⟩) (by simp)
    have hsz := hb0.size
    simp at hsz
    have hsz' : w.heap.size < wr.heap.size := by omega
    clear hb0
    by_cases hlt : k < 6
    · have hbd : (0 : Int) ≤ k := by omega
      have hbd' : (k : Int) ≤ 255 := by omega
      go_wp2_with (go_at_call 39; refine ((rLocs_no _ _ _ _ _ _ HK.out _ hbd hbd').mono fun _ _ => RetBytes.none rfl).mono ?_; rintro e w1 ⟨a1, cap1, rfl, hb1⟩)
      go_roundw
      case rel => exact ⟨k + 1, by omega, by go_num, rfl, HE.out.trans (hb1.mono (by omega))⟩
      case measure => simp [intOf]; omega
    · obtain rfl : k = 6 := by omega
      go_wp2
      go_ret
      exact ⟨rfl, ((Below.refl w.heap.size w).alloc (Nat.le_refl _) _).trans (HE.out.mono (by omega))⟩
end Go.Proofs.YtolkajcgddiceaaDoor
