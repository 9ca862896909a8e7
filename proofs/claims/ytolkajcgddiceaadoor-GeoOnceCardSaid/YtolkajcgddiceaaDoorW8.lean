/- Walks of package geo: Locs. -/
import Derived.Test.YtolkajcgddiceaaDoorW7
import Derived.RangeFuncBox
import Derived.Maps.AppendAt
set_option linter.unusedSimpArgs false
set_option linter.unusedVariables false
namespace Go.Proofs.YtolkajcgddiceaaDoor
open Go.RowKit Go.Shelf
attribute [local go_sem] Oper.semAt_some

set_option maxHeartbeats 1000000 in
theorem locs_fn (c h o s y l : Int) (w : World) :
    Calls Tryd.prog 28 #[.agg #[.int .i64 c, .int .i64 h, .int .i64 o, .int .i64 s, .int .i64 y], .int .u8 l] w fun e w' => e = .returned (.func (.func 41) #[] #[.pointer (some ⟨w.heap.size, 0, none⟩), .pointer (some ⟨w.heap.size + 1, 0, none⟩)]) ∧
      w' = (w.alloc (.cells #[.int .i64 c, .int .i64 h, .int .i64 o, .int .i64 s, .int .i64 y] 42)).alloc (.cells #[.int .u8 l] 5) := by
  go_enter Tryd.func28, Tryd.ntmps28
  go_wp2
  go_ret
  exact ⟨rfl, rfl⟩

theorem keeps_app {W w3 : World} {tmp : Obj} {b1 b2 B base e size n m : Nat} {v v' u : Value} {xs ys : List Value} (_ : w3.ownsRow base e size v' m ys) (hr : W.ownsRow base e size v n xs) (hg : (W.alloc tmp).grownBy w3 v.ownBlock) (hs : base ≤ W.heap.size)
    (h1 : b1 < base) (h2 : b2 < base) (n1 : b1 ≠ B) (n2 : b2 ≠ B) : Keeps2 b1 b2 W (w3.setCell ⟨B, 0, none⟩ u) := by
  have hlt := hr.lt
  have key : ∀ b, b < base → b ≠ B → (w3.setCell ⟨B, 0, none⟩ u).heap[b]? = W.heap[b]? := fun b hb hn => by
    rw [Below.heap_setCell _ _ _ b hn, hg.block b (by simp; omega) (fun e => by have := (hlt b e.symm).1; omega), Below.heap_alloc _ _ _ (by omega)]
  exact ⟨key b1 h1 n1, key b2 h2 n2, by have := hg.size; simp [World.setCell] at this ⊢; omega⟩

set_option maxHeartbeats 1000000 in
theorem Locs_yes (c h o s y : Int) (w : World) (hw : Bnd w) (hk : OkG c h o s y) (l : Int) (hl : 0 ≤ l) (hl' : l ≤ 255) :
    Calls Tryd.prog 13 #[.agg #[.int .i64 c, .int .i64 h, .int .i64 o, .int .i64 s, .int .i64 y], .int .u8 l] w (RetBytes w (locsTo o l 6)) := by
  obtain ⟨q1, q2, q3, q4, q5, q6, q7, q8, q9, q10⟩ := id hk
  have sz := hw.sz
  have HW := Lib.hid hw
  clear hw
  have HK := Lib.hid hk
  clear hk
  refine (callsIn_wide (n := 4)).1 ?_
  refine callsIn_of_wp_marks Tryd.func13 rfl trivial ?_ rfl
  simp only [Tryd.ntmps13, List.size_toArray, List.length_cons, List.length_nil, Nat.reduceAdd, Nat.reduceSub, Array.replicate_succ, Array.replicate_zero, List.push_toArray, List.append_toArray, List.nil_append, List.cons_append]
  gi_wp2_with (first | (refine ⟨trivial, ?_⟩; gi_at_call 26; refine (callsIn_wide.2 (valid_yes c h o s y _ (HW.out.alloc _) HK.out)).mono ?_; rintro e w1 ⟨rfl, hb1⟩; obtain ⟨hc, hf⟩ := bcell hb1; have hz := hb1.size; simp at hz) | (refine ⟨trivial, ?_⟩; gi_at_call 28; refine (callsIn_wide.2 (locs_fn c h o s y l _)).mono ?_; rintro e w2 ⟨rfl, rfl⟩))
  have h0 := Below.after hb1 ((Below.refl w.heap.size w).alloc (Nat.le_refl _) _) (by simp)
  have hv0 : Boxed ((w1.alloc (.cells #[.int .i64 c, .int .i64 h, .int .i64 o, .int .i64 s, .int .i64 y] 42)).alloc (.cells #[.slice none 0 0] 28)) (w1.heap.size + 1) 28 (.slice none 0 0) := by
    have := Boxed.new (w1.alloc (.cells #[.int .i64 c, .int .i64 h, .int .i64 o, .int .i64 s, .int .i64 y] 42)) 28 (.slice none 0 0)
    rwa [World.size_alloc] at this
  have hv1 := (hv0.alloc (.cells #[.int .i64 c, .int .i64 h, .int .i64 o, .int .i64 s, .int .i64 y] 42)).alloc (.cells #[.int .u8 l] 5)
  have hB0 : Below w.heap.size w ((((w1.alloc (.cells #[.int .i64 c, .int .i64 h, .int .i64 o, .int .i64 s, .int .i64 y] 42)).alloc (.cells #[.slice none 0 0] 28)).alloc (.cells #[.int .i64 c, .int .i64 h, .int .i64 o, .int .i64 s, .int .i64 y] 42)).alloc (.cells #[.int .u8 l] 5)) := by (repeat (first | with_reducible exact Below.refl _ _ | with_reducible assumption | (with_reducible refine Below.alloc ?_ (by first | omega | (simp; done) | (simp; omega)) _) | (with_reducible refine Below.setCell ?_ (by first | omega | (simp; done) | (simp; omega)) _) | (with_reducible refine Below.drew ?_) | (with_reducible refine below_drewN ?_ _)))
  have hc1 : ∀ j : Nat, ((((w1.alloc (.cells #[.int .i64 c, .int .i64 h, .int .i64 o, .int .i64 s, .int .i64 y] 42)).alloc (.cells #[.slice none 0 0] 28)).alloc (.cells #[.int .i64 c, .int .i64 h, .int .i64 o, .int .i64 s, .int .i64 y] 42)).alloc (.cells #[.int .u8 l] 5)).cell? ⟨w1.heap.size + 1 + 1, j, none⟩ = (#[.int .i64 c, .int .i64 h, .int .i64 o, .int .i64 s, .int .i64 y] : Array Value)[j]? := fun j => by
    have e1 := World.alloc_heap_new ((w1.alloc (.cells #[.int .i64 c, .int .i64 h, .int .i64 o, .int .i64 s, .int .i64 y] 42)).alloc (.cells #[.slice none 0 0] 28)) (.cells #[.int .i64 c, .int .i64 h, .int .i64 o, .int .i64 s, .int .i64 y] 42)
    rw [World.size_alloc, World.size_alloc] at e1
    rw [World.cell?_of_block (a := ⟨w1.heap.size + 1 + 1, j, none⟩) (Below.heap_alloc _ _ _ (by simp))]
    simp only [World.cell?]
    rw [e1]
    simp
  have hc2 : ((((w1.alloc (.cells #[.int .i64 c, .int .i64 h, .int .i64 o, .int .i64 s, .int .i64 y] 42)).alloc (.cells #[.slice none 0 0] 28)).alloc (.cells #[.int .i64 c, .int .i64 h, .int .i64 o, .int .i64 s, .int .i64 y] 42)).alloc (.cells #[.int .u8 l] 5)).cell? ⟨w1.heap.size + 1 + 1 + 1, 0, none⟩ = some (.int .u8 l) := by
    have e1 := World.alloc_heap_new (((w1.alloc (.cells #[.int .i64 c, .int .i64 h, .int .i64 o, .int .i64 s, .int .i64 y] 42)).alloc (.cells #[.slice none 0 0] 28)).alloc (.cells #[.int .i64 c, .int .i64 h, .int .i64 o, .int .i64 s, .int .i64 y] 42)) (.cells #[.int .u8 l] 5)
    rw [World.size_alloc, World.size_alloc, World.size_alloc] at e1
    simp only [World.cell?]
    rw [e1]
    simp
  have hs0 : ((((w1.alloc (.cells #[.int .i64 c, .int .i64 h, .int .i64 o, .int .i64 s, .int .i64 y] 42)).alloc (.cells #[.slice none 0 0] 28)).alloc (.cells #[.int .i64 c, .int .i64 h, .int .i64 o, .int .i64 s, .int .i64 y] 42)).alloc (.cells #[.int .u8 l] 5)).heap.size = w1.heap.size + 4 := by simp
  generalize ((((w1.alloc (.cells #[.int .i64 c, .int .i64 h, .int .i64 o, .int .i64 s, .int .i64 y] 42)).alloc (.cells #[.slice none 0 0] 28)).alloc (.cells #[.int .i64 c, .int .i64 h, .int .i64 o, .int .i64 s, .int .i64 y] 42)).alloc (.cells #[.int .u8 l] 5)) = W0 at *
  clear hv0 h0 hc hf hb1
  obtain ⟨i0, hi, iz0, iz1, iz2⟩ := info_parts Tryd.info5
  have HI := Lib.hid iz1
  have HI2 := Lib.hid iz2
  have HS := Lib.hid hs0
  clear iz1 iz2 hs0
  refine wpIn_rangeFunc_ownF rfl (by decide) (gf := 41) (lb := #[.pointer (some ⟨w1.heap.size + 1 + 1, 0, none⟩), .pointer (some ⟨w1.heap.size + 1 + 1 + 1, 0, none⟩)]) rfl trivial (enters_of Tryd.func41 (by kernel_rfl) rfl)
    (iter_stops c h o s y q5 q6 l hl hl' (w1.heap.size + 1 + 1) (w1.heap.size + 1 + 1 + 1) W0 (by have := HS.out; omega) (by have := HS.out; omega) hc1 hc2) (fun h k => h.trans k) (Keeps2.putObj (by have := HS.out; omega) (by have := HS.out; omega)) (Below.refl _ _) (fun _ => rfl)
    (fun (pre : List Int) W => (∃ v, Boxed W (w1.heap.size + 1) 28 v ∧ W.ownsRow W0.heap.size 5 1 v pre.length (pre.map (Value.int .u8)) ∧ True) ∧ Below w.heap.size w W ∧ W0.heap.size ≤ W.heap.size) (fun _ _ _ => False)
    (OwnFrom.and (Own.from (holdsRow_own _ _ _ _ _ (fun (pre : List Int) => pre.length) (fun (pre : List Int) => pre.map (Value.int .u8)) (fun _ _ => True)) _) (OwnFrom.and (ownFrom_below (Nat.le_refl _) hB0.size) (fun _ _ _ _ hs hg _ => Nat.le_trans hs hg.size)))
    (fun _ _ _ _ _ hs _ _ => hs) ⟨⟨_, hv1, World.ownsRow_nil _ _ _ _, trivial⟩, hB0, Nat.le_refl _⟩
    (fun x => { tmps := #[.agg #[.int .i64 c, .int .i64 h, .int .i64 o, .int .i64 s, .int .i64 y], .int .u8 l, .pointer (some ⟨w.heap.size, 0, none⟩), undef, .slice none 0 0, .pointer (some ⟨w1.heap.size, 0, none⟩), .bool true, .pointer (some ⟨w1.heap.size + 1, 0, none⟩), .int .u8 x, .tuple #[.agg #[.int .i64 c, .int .i64 h, .int .i64 o, .int .i64 s, .int .i64 y], .bool true], .agg #[.int .i64 c, .int .i64 h, .int .i64 o, .int .i64 s, .int .i64 y], .tuple #[.agg #[.int .i64 c, .int .i64 h, .int .i64 o, .int .i64 s, .int .i64 y], .bool true], .agg #[.int .i64 c, .int .i64 h, .int .i64 o, .int .i64 s, .int .i64 y], .bool true, .bool true, .bool false, .agg #[.int .i64 c, .int .i64 h, .int .i64 o, .int .i64 s, .int .i64 y], .int .u8 l, .func (.func 41) #[] #[.pointer (some ⟨w1.heap.size + 1 + 1, 0, none⟩), .pointer (some ⟨w1.heap.size + 1 + 1 + 1, 0, none⟩)], .int .u8 x, undef, undef, undef, undef, undef], defers := [] }) ?assign ?body ?done ?stop
  case assign =>
    intro l' x W K hK
    gi_wp2
    exact hK
  case body =>
    have hle0 : w.heap.size ≤ W0.heap.size := hB0.size
    have hle1 : w.heap.size ≤ w1.heap.size + 1 := by have := HS.out; omega
    have hbx1 : w1.heap.size + 1 + 1 < W0.heap.size := by have := HS.out; omega
    have hbx2 : w1.heap.size + 1 + 1 + 1 < W0.heap.size := by have := HS.out; omega
    have hne1 : w1.heap.size + 1 + 1 ≠ w1.heap.size + 1 := by omega
    have hne2 : w1.heap.size + 1 + 1 + 1 ≠ w1.heap.size + 1 := by omega
    rintro l' pre x W ⟨⟨v, hv, hrow, -⟩, hB, hsz⟩ hlen
    have hcell := hv.cell
    have HV := Lib.hid hv
    have HR := Lib.hid hrow
    have HB := Lib.hid hB
    clear hv hrow hB
    gi_wp2_with (gi_at_builtin; refine wpListIn_append_own _ rfl _ _ 28 rfl W0.heap.size 5 i0 (.int .u8 0) 1 1 Tryd.underlying28 hi iz0 HI.out HI2.out rfl (by decide) _ _ _ rfl (HR.out.alloc _) ⟨W.heap.size, 0, none⟩ 1 1 [.int .u8 x] rfl rfl ?c1 ?c2 ?c3 ?c4 ?c5 ?_)
    case c1 =>
      intro j u hj
      match j, hj with
      | 0, hj => simp at hj; subst hj; simp [Addr.add]
    case c2 => intro u hu; simp at hu; subst hu; rfl
    case c3 => unfold maxLen; omega
    case c4 => omega
    case c5 => simp; omega
    intro v' w3 hown' hgrow _
    obtain ⟨g', cap', rfl⟩ := ownsRow_succ hown'
    obtain ⟨hv1, hv2, hr2, hk2, hb2⟩ := HV.out.appended (n₀ := w.heap.size) (by decide) (ownsRow_base HR.out hle0) HB.out.size hle1 (ownsRow_base hown' hle0) hgrow
    have hr3 := hown'.kept (grownBy_setCell' w3 (w1.heap.size + 1) (.slice (some ⟨g', 0, none⟩) (pre.length + 1) cap')) (.inr (hv1.not_row (by decide) hown').symm)
    have hkk := keeps_app (u := .slice (some ⟨g', 0, none⟩) (pre.length + 1) cap') hown' HR.out hgrow hsz hbx1 hbx2 hne1 hne2
    have hcc := hv1.cell
    have hff := hv1.frozen
    have H2 := Lib.hid hv2
    have H3 := Lib.hid hr3
    have H4 := Lib.hid hk2
    have H5 := Lib.hid hb2
    have H6 := Lib.hid hkk
    clear hv1 hv2 hr2 hk2 hb2 hr3 hkk hown' hgrow
    gi_wp2
    exact ⟨H4.out, H6.out, ⟨_, H2.out, by simpa using H3.out, trivial⟩, HB.out.trans H5.out, Nat.le_trans hsz H6.out.size⟩
  case done =>
    rintro D ys W hD rfl ⟨⟨v, hv, hrow, -⟩, hB, hsz⟩ hK
    have hcell := hv.cell
    have HR := Lib.hid hrow
    have HB := Lib.hid hB
    clear hrow hB hv
    gi_wp2
    refine ⟨by simp, .inl ⟨_, _, rfl, run_takeDeferred hK, ?_⟩⟩
    exact ⟨_, results_tmp rfl _ _ _, v, rfl, ownsRow_base (ownsRow_putObj HR.out _ hK rfl) hB0.size, HB.out.trans (belowK_b (w := w) (Nat.le_refl _) W D _ _ (Nat.le_trans hB0.size hD) hK rfl rfl)⟩
  case stop =>
    rintro D c pre W _ _ hx _
    exact hx.elim

set_option maxHeartbeats 1000000 in
theorem Locs_no (c h o s y : Int) (w : World) (hw : Bnd w) (hk : ¬ OkG c h o s y) (l : Int) (hl : 0 ≤ l) (hl' : l ≤ 255) :
    Calls Tryd.prog 13 #[.agg #[.int .i64 c, .int .i64 h, .int .i64 o, .int .i64 s, .int .i64 y], .int .u8 l] w (RetBytes w []) := by
  have sz := hw.sz
  have HW := Lib.hid hw
  clear hw
  have HK := Lib.hid hk
  clear hk
  go_enter Tryd.func13, Tryd.ntmps13
  go_wp2_with (go_at_call 26; refine (valid_no c h o s y _ (HW.out.alloc _) HK.out).mono ?_; rintro e w1 ⟨rfl, hb1⟩; obtain ⟨hc, hf⟩ := bcell hb1; have hz := hb1.size; simp at hz)
  go_ret
  have h0 := Below.after hb1 ((Below.refl w.heap.size w).alloc (Nat.le_refl _) _) (by simp)
  exact ⟨_, rfl, World.ownsRow_nil _ _ _ _, by (repeat (first | with_reducible exact Below.refl _ _ | with_reducible assumption | (with_reducible refine Below.alloc ?_ (by first | omega | (simp; done) | (simp; omega)) _) | (with_reducible refine Below.setCell ?_ (by first | omega | (simp; done) | (simp; omega)) _) | (with_reducible refine Below.drew ?_) | (with_reducible refine below_drewN ?_ _)))⟩
end Go.Proofs.YtolkajcgddiceaaDoor
