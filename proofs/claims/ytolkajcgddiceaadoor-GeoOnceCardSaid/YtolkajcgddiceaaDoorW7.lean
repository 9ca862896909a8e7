/- Walks of package geo: the locations of a line. -/
import Derived.Test.YtolkajcgddiceaaDoorW6
import Derived.Test.YtolkajcgddiceaaDoorRel
import Derived.RangeFuncNested
import Derived.RangeFuncBound
import Derived.RangeFuncCalls
import Derived.RangeFuncLeaves
import Derived.Shelf.Abstract
import Derived.Shelf.RegionOpen
import Derived.OwnWalkIn
import Derived.TacticsInMore
import Derived.LoopNIn
import Derived.LoopIn
set_option linter.unusedSimpArgs false
set_option linter.unusedVariables false
namespace Go.Proofs.YtolkajcgddiceaaDoor
open Go.RowKit Go.Shelf
attribute [local go_sem] Oper.semAt_some

theorem line_is (c h o s y : Int) (w : World) (ho : 1 ≤ o) (ho' : o ≤ 4) (l : Int) (hl : 0 ≤ l) (hl' : l ≤ 255) (m : Int) (hm : l / o = m) :
    Calls Tryd.prog 27 #[.agg #[.int .i64 c, .int .i64 h, .int .i64 o, .int .i64 s, .int .i64 y], .int .u8 l] w fun e w' => e = .returned (.int .u8 m) ∧ Below w.heap.size w w' := hm ▸ line_any c h o s y w ho ho' l hl hl'

theorem locsTo_pre (o l : Int) : ∀ k m, k ≤ m → locsTo o l k <+: locsTo o l m
  | k, 0, h => (by
    obtain rfl : k = 0 := by omega
    exact List.prefix_refl _)
  | k, m + 1, h => by
    by_cases hk : k = m + 1
    · subst hk; exact List.prefix_refl _
    · have ih := locsTo_pre o l k m (by omega)
      by_cases hm : (m : Int) / o = l
      · rw [locsTo_yes hm]; exact ih.trans (List.prefix_append _ _)
      · rwa [locsTo_no hm]

/-- Two blocks lie as they lay. -/
structure Keeps2 (b1 b2 : Nat) (W W' : World) : Prop where
  k1 : W'.heap[b1]? = W.heap[b1]?
  k2 : W'.heap[b2]? = W.heap[b2]?
  size : W.heap.size ≤ W'.heap.size
theorem Keeps2.refl (b1 b2 : Nat) (W : World) : Keeps2 b1 b2 W W := ⟨rfl, rfl, Nat.le_refl _⟩
theorem Keeps2.trans {b1 b2 : Nat} {A B C : World} (h : Keeps2 b1 b2 A B) (k : Keeps2 b1 b2 B C) : Keeps2 b1 b2 A C := ⟨k.k1.trans h.k1, k.k2.trans h.k2, Nat.le_trans h.size k.size⟩
theorem Keeps2.of_below {b1 b2 B : Nat} {W W' : World} (h : Below B W W') (h1 : b1 < B) (h2 : b2 < B) : Keeps2 b1 b2 W W' := ⟨h.block _ h1, h.block _ h2, h.size⟩
theorem Keeps2.putObj {b1 b2 : Nat} {w : World} (h1 : b1 < w.heap.size) (h2 : b2 < w.heap.size) (W : World) (l : Nat) (o o' : Obj) (hl : w.heap.size ≤ l) (_ : W.heap[l]? = some o) (_ : o.isCells = false) (_ : o.isWalk = false) : Keeps2 b1 b2 W (W.putObj l o') :=
  ⟨World.putObj_heap_other (by omega), World.putObj_heap_other (by omega), by simp⟩

set_option maxHeartbeats 1000000 in
theorem iter_stops (c h o s y : Int) (ho : 1 ≤ o) (ho' : o ≤ 4) (l : Int) (hl : 0 ≤ l) (hl' : l ≤ 255) (b1 b2 : Nat) (w : World) (hb1 : b1 < w.heap.size) (hb2 : b2 < w.heap.size)
    (c1 : ∀ j : Nat, w.cell? ⟨b1, j, none⟩ = (#[.int .i64 c, .int .i64 h, .int .i64 o, .int .i64 s, .int .i64 y] : Array Value)[j]?) (c2 : w.cell? ⟨b2, 0, none⟩ = some (.int .u8 l)) :
    SeqStopsK Fence.wide 3 Tryd.prog 41 #[.pointer (some ⟨b1, 0, none⟩), .pointer (some ⟨b2, 0, none⟩)] (fun x : Int => #[.int .u8 x]) (Keeps2 b1 b2)
      (fun xs => xs = locsTo o l 6) (fun pre => pre <+: locsTo o l 6) 6 w := by
  intro lp J Jx W hW hJ hJx hY h0
  refine callsIn_of_wp Tryd.func41 rfl trivial ?_ rfl
  simp only [Tryd.ntmps41, List.size_toArray, List.length_cons, List.length_nil, Nat.reduceAdd, Nat.reduceSub, Array.replicate_succ, Array.replicate_zero, List.push_toArray, List.append_toArray, List.nil_append, List.cons_append]
  have k1 : ∀ W', Keeps2 b1 b2 W W' → ∀ j, W'.cell? ⟨b1, j, none⟩ = (#[.int .i64 c, .int .i64 h, .int .i64 o, .int .i64 s, .int .i64 y] : Array Value)[j]? := fun W' hb j => by
    rw [World.cell?_of_block (a := ⟨b1, j, none⟩) (hb.k1.trans (hW.block b1 hb1)), c1]
  have k2 : ∀ W', Keeps2 b1 b2 W W' → W'.cell? ⟨b2, 0, none⟩ = some (.int .u8 l) := fun W' hb => by
    rw [World.cell?_of_block (a := ⟨b2, 0, none⟩) (hb.k2.trans (hW.block b2 hb2)), c2]
  have K1 := Lib.hid k1
  have K2 := Lib.hid k2
  have HY := Lib.hid hY
  clear k1 k2 c1 c2 hY
  gi_wp2
  gi_loopw [4] (fun i wr => ∃ k : Nat, k ≤ 6 ∧ i = .int .u8 k ∧ J (locsTo o l k) wr ∧ Keeps2 b1 b2 W wr) (fun i _ => 6 - (intOf i).toNat)
  case atStart => exact ⟨0, by omega, rfl, h0, Keeps2.refl _ _ _⟩
  case round =>
    obtain ⟨k, hk6, rfl, hj, hb0⟩ := hrel
    have HJ := Lib.hid hj
    have hle1 : b1 < wr.heap.size := by have := hb0.size; have := hW.size; omega
    have hle2 : b2 < wr.heap.size := by have := hb0.size; have := hW.size; omega
    have HB := Lib.hid hb0
    clear hj hb0
    by_cases hlt : k < 6
    · have hbd : (0 : Int) ≤ k := by omega
      have hbd' : (k : Int) ≤ 255 := by omega
      by_cases he : (k : Int) / o = l
      · have HE := Lib.hid he
        clear he
        gi_wp2
        refine Rel.wpIn_region_lex (fun _ => trivial) rfl 8 [⟨[(1, none)], none⟩, ⟨[(4, none)], none⟩, ⟨[(9, some 0), (10, some 1)], none⟩, ⟨[(2, none)], none⟩, ⟨[(11, some 2), (12, some 3)], none⟩, ⟨[(13, some 4)], none⟩, ⟨[(0, none), (14, some 5)], some (14, true)⟩, ⟨[(4, none), (14, some 5)], some (14, true)⟩] Rel.Grow (by kernel_rfl) (by kernel_rfl) (by kernel_rfl) Rel.Grow.refl Rel.Grow.trans (Rel.Grow.drew _) ?_
        simp only [List.take_succ_cons, List.take_zero]
        iterate 8 (apply Rel.lexIn_eq; · (simp only [Rel.Knows, Rel.Guarded, List.nil_append, List.cons_append, List.getD_cons_zero, List.getD_cons_succ]; intro a' w' hG; intros; have g1 := K1.out _ (HB.out.trans (Keeps2.of_below hG hle1 hle2)); have g2 := K2.out _ (HB.out.trans (Keeps2.of_below hG hle1 hle2)); first | (go_simp; first | exact ⟨Rel.Grow.refl _, rfl⟩ | (refine (callsIn_wide.2 (line_is c h o s y _ ho ho' _ hbd hbd' _ HE.out)).mono ?_; rintro e w2 ⟨rfl, hb2⟩; exact ⟨_, rfl, hb2, rfl⟩)) | (refine ⟨_, by assumption, (fun _ => ?_), (fun hh => absurd rfl hh)⟩; go_simp; exact ⟨Rel.Grow.refl _, rfl⟩)))
        refine Rel.lexIn_nil ?_
        intro w2 hG
        simp only [List.nil_append, List.cons_append]
        iterate 8 (with_reducible refine Rel.forAllV_eq ?_)
        simp only [Rel.forAllV, Rel.putAll, List.take_succ_cons, List.take_zero, List.drop_succ_cons, List.drop_zero, Act.put, List.setIfInBounds_toArray, List.set_cons_succ, List.set_cons_zero]
        have hJ2 : J (locsTo o l k) w2 := hJ _ _ _ none HJ.out (hG.grownBy none) (fun r hr => by cases hr)
        obtain ⟨fn, tmps, assign, body, hy, hR⟩ := HY.out (locsTo o l k) k w2 hJ2 (by have := locsTo_len o l k; omega)
        gi_wp2
        refine hR.mono ?_
        rintro e W' (⟨rfl, hJ', hk⟩ | ⟨rfl, hJx'⟩)
        · gi_wp2
          go_roundw
          case rel => exact ⟨k + 1, by omega, by go_num, by rw [locsTo_yes HE.out]; exact hJ', HB.out.trans ((Keeps2.of_below hG hle1 hle2).trans hk)⟩
          case measure => simp [intOf]; omega
        · gi_wp2
          refine bodyPost_ret (results_none rfl _ _ _) rfl ?_
          exact ⟨⟨_, rfl⟩, .inr ⟨locsTo o l k ++ [(k : Int)], by rw [← locsTo_yes HE.out]; exact locsTo_pre o l (k + 1) 6 (by omega), hJx'⟩⟩
      · have hno : ((k : Int) / o == l) = false := by simpa using he
        have HE := Lib.hid he
        clear he
        gi_wp2
        refine Rel.wpIn_region_lex (fun _ => trivial) rfl 11 [⟨[(1, none)], none⟩, ⟨[(4, none)], none⟩, ⟨[(9, some 0), (10, some 1)], none⟩, ⟨[(2, none)], none⟩, ⟨[(11, some 2), (12, some 3)], none⟩, ⟨[(13, some 4)], none⟩, ⟨[(0, none), (14, some 5)], some (14, true)⟩, ⟨[(4, none), (14, some 5)], some (14, true)⟩, ⟨[(15, some 6), (16, some 7), (14, some 5)], some (14, true)⟩, ⟨[(17, some 8), (14, some 5)], some (14, true)⟩, ⟨[(14, some 5), (18, some 9)], none⟩] Rel.Grow (by kernel_rfl) (by kernel_rfl) (by kernel_rfl) Rel.Grow.refl Rel.Grow.trans (Rel.Grow.drew _) ?_
        simp only [List.take_succ_cons, List.take_zero]
        iterate 11 (apply Rel.lexIn_eq; · (simp only [Rel.Knows, Rel.Guarded, List.nil_append, List.cons_append, List.getD_cons_zero, List.getD_cons_succ]; intro a' w' hG; intros; have g1 := K1.out _ (HB.out.trans (Keeps2.of_below hG hle1 hle2)); have g2 := K2.out _ (HB.out.trans (Keeps2.of_below hG hle1 hle2)); first | (go_simp; first | exact ⟨Rel.Grow.refl _, rfl⟩ | (refine (callsIn_wide.2 (line_any c h o s y _ ho ho' _ hbd hbd')).mono ?_; rintro e w2 ⟨rfl, hb2⟩; exact ⟨_, rfl, hb2, rfl⟩)) | (refine ⟨_, by assumption, (fun _ => ?_), (fun hh => absurd rfl hh)⟩; go_simp; (try go_ints); exact ⟨Rel.Grow.refl _, rfl⟩) | (refine ⟨_, by assumption, ?_, (fun _ => rfl)⟩; intro hh; cases hh; done)))
        refine Rel.lexIn_nil ?_
        intro w2 hG
        simp only [List.nil_append, List.cons_append]
        iterate 11 (with_reducible refine Rel.forAllV_eq ?_)
        simp only [List.append_eq, List.cons_append, List.nil_append, Rel.forAllV, Rel.putAll, List.take_succ_cons, List.take_zero, List.drop_succ_cons, List.drop_zero, Act.put, List.setIfInBounds_toArray, List.set_cons_succ, List.set_cons_zero]
        have hJ2 : J (locsTo o l k) w2 := hJ _ _ _ none HJ.out (hG.grownBy none) (fun r hr => by cases hr)
        gi_wp2
        go_roundw
        case rel => exact ⟨k + 1, by omega, by go_num, by rw [locsTo_no HE.out]; exact hJ2, HB.out.trans (Keeps2.of_below hG hle1 hle2)⟩
        case measure => simp [intOf]; omega
    · obtain rfl : k = 6 := by omega
      gi_wp2
      go_end0
      exact ⟨⟨_, rfl⟩, .inl ⟨_, rfl, HJ.out⟩⟩
end Go.Proofs.YtolkajcgddiceaaDoor
