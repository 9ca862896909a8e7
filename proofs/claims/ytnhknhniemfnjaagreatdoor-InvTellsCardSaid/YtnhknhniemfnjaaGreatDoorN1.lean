/- Geometry: contracts of the program's functions and the reference's. -/
import Derived.Test.YtnhknhniemfnjaaGreatDoorFA
import Derived.Test.YtnhknhniemfnjaaGreatDoorK3
set_option linter.unusedSimpArgs false
set_option linter.unusedVariables false
namespace Go.Proofs.YtnhknhniemfnjaaGreatDoor.Ev
open Go Go.RowKit
set_option maxRecDepth 100000
def OkG (c h o s y : Int) : Prop := 1 ≤ c ∧ c ≤ 4 ∧ 1 ≤ h ∧ h ≤ 2 ∧ 1 ≤ o ∧ o ≤ 4 ∧ 1 ≤ s ∧ s ≤ 4 ∧ 1 ≤ y ∧ y ≤ 4
instance (c h o s y : Int) : Decidable (OkG c h o s y) := by unfold OkG; infer_instance
abbrev encG (c h o s y : Int) : A := .agg [i64 c, i64 h, i64 o, i64 s, i64 y]
attribute [go_sem] encG
set_option maxHeartbeats 4000000 in
theorem gline27 (c h o s y : Int) (l : Int) (hk : OkG c h o s y) (l1 : 0 ≤ l) (l2 : l ≤ 255) : EvQ Cx 56 [encG c h o s y, i8 l] (i8 (l / o)) := by
  obtain ⟨c1, c2, h1, h2, o1, o2, s1, s2, y1, y2⟩ := id hk
  have d1 : 0 ≤ l / o := Int.ediv_nonneg (by omega) (by omega)
  have d2 : l / o ≤ 255 := Int.le_trans (Int.ediv_le_self _ l1) l2
  refine evQ_of CxB56 rfl (by simp [fn56]) ?_
  simp (disch := omega) only [go_sem, simprocAttr]
set_option maxHeartbeats 4000000 in
theorem gright_yes (c h o s y : Int) (hk : OkG c h o s y) : EvQ Cx 28 [encG c h o s y] (bo true) := by
  obtain ⟨c1, c2, h1, h2, o1, o2, s1, s2, y1, y2⟩ := id hk
  refine evQ_of CxB28 rfl (by simp [fn28]) ?_
  simp (disch := omega) only [go_sem, simprocAttr]
  iterate 6 (rw [runK_loop]; simp (disch := omega) only [go_sem, simprocAttr])
set_option maxHeartbeats 16000000 in
theorem gright_no (c h o s y : Int) (hk : ¬ OkG c h o s y) : EvQ Cx 28 [encG c h o s y] (bo false) := by
  refine evQ_of CxB28 rfl (by simp [fn28]) ?_
  simp (disch := omega) only [go_sem, simprocAttr]
  rw [runK_loop]
  by_cases k0 : 1 ≤ c
  case neg => simp (disch := omega) only [go_sem, simprocAttr]
  by_cases k1 : c ≤ 4
  case neg => simp (disch := omega) only [go_sem, simprocAttr]
  simp (disch := omega) only [go_sem, simprocAttr]
  rw [runK_loop]
  by_cases k2 : 1 ≤ h
  case neg => simp (disch := omega) only [go_sem, simprocAttr]
  by_cases k3 : h ≤ 2
  case neg => simp (disch := omega) only [go_sem, simprocAttr]
  simp (disch := omega) only [go_sem, simprocAttr]
  rw [runK_loop]
  by_cases k4 : 1 ≤ o
  case neg => simp (disch := omega) only [go_sem, simprocAttr]
  by_cases k5 : o ≤ 4
  case neg => simp (disch := omega) only [go_sem, simprocAttr]
  simp (disch := omega) only [go_sem, simprocAttr]
  rw [runK_loop]
  by_cases k6 : 1 ≤ s
  case neg => simp (disch := omega) only [go_sem, simprocAttr]
  by_cases k7 : s ≤ 4
  case neg => simp (disch := omega) only [go_sem, simprocAttr]
  simp (disch := omega) only [go_sem, simprocAttr]
  rw [runK_loop]
  by_cases k8 : 1 ≤ y
  case neg => simp (disch := omega) only [go_sem, simprocAttr]
  by_cases k9 : y ≤ 4
  case neg => simp (disch := omega) only [go_sem, simprocAttr]
  exact absurd ⟨k0, k1, k2, k3, k4, k5, k6, k7, k8, k9⟩ hk
theorem gright_ev (c h o s y : Int) : EvQ Cx 28 [encG c h o s y] (bo (decide (OkG c h o s y))) := by
  by_cases hk : OkG c h o s y
  · rw [decide_eq_true hk]
    exact gright_yes c h o s y hk
  · rw [decide_eq_false hk]
    exact gright_no c h o s y hk
set_option maxHeartbeats 4000000 in
theorem gvalid_yes (c h o s y : Int) (hk : OkG c h o s y) : EvQ Cx 55 [encG c h o s y] (.tup [encG c h o s y, bo true]) := by
  have hR := gright_yes c h o s y hk
  refine evQ_of CxB55 rfl (by simp [fn55]) ?_
  simp (disch := omega) only [go_sem, simprocAttr, passK_shut CxP28, QK.use hR]
theorem gvalid_no (c h o s y : Int) (hk : ¬ OkG c h o s y) : EvQ Cx 55 [encG c h o s y] (.tup [encG 0 0 0 0 0, bo false]) := by
  have hR := gright_no c h o s y hk
  refine evQ_of CxB55 rfl (by simp [fn55]) ?_
  simp (disch := omega) only [go_sem, simprocAttr, passK_shut CxP28, QK.use hR]
set_option maxHeartbeats 4000000 in
theorem glines_yes (c h o s y : Int) (hk : OkG c h o s y) : EvQ Cx 31 [encG c h o s y] (i64 (5 / o + 1)) := by
  have hV := gvalid_yes c h o s y hk
  have hL := gline27 c h o s y 5 hk (by omega) (by omega)
  obtain ⟨c1, c2, h1, h2, o1, o2, s1, s2, y1, y2⟩ := id hk
  have d1 : 0 ≤ 5 / o := Int.ediv_nonneg (by omega) (by omega)
  have d2 : 5 / o ≤ 5 := Int.ediv_le_self _ (by omega)
  refine evQ_of CxB31 rfl (by simp [fn31]) ?_
  simp (disch := omega) only [go_sem, simprocAttr, passK_shut CxP55, passK_shut CxP56, QK.use hV, QK.use hL]
set_option maxHeartbeats 4000000 in
theorem gset_yes (c h o s y : Int) (l : Int) (hk : OkG c h o s y) (l1 : 0 ≤ l) (l2 : l ≤ 255) : EvQ Cx 121 [encG c h o s y, i8 l] (i8 (l % s)) := by
  have hV := gvalid_yes c h o s y hk
  obtain ⟨c1, c2, h1, h2, o1, o2, s1, s2, y1, y2⟩ := id hk
  refine evQ_of CxB121 rfl (by simp [fn121]) ?_
  simp (disch := omega) only [go_sem, simprocAttr, passK_shut CxP55, QK.use hV]
set_option maxHeartbeats 4000000 in
theorem ghome_yes (c h o s y : Int) (l : Int) (hk : OkG c h o s y) (l1 : 0 ≤ l) (l2 : l ≤ 255) : EvQ Cx 89 [encG c h o s y, i8 l] (i8 (c + l % h)) := by
  have hV := gvalid_yes c h o s y hk
  obtain ⟨c1, c2, h1, h2, o1, o2, s1, s2, y1, y2⟩ := id hk
  have d1 := Int.emod_nonneg l (show h ≠ 0 by omega)
  have d2 := Int.emod_lt_of_pos l (show 0 < h by omega)
  refine evQ_of CxB89 rfl (by simp [fn89]) ?_
  simp (disch := omega) only [go_sem, simprocAttr, passK_shut CxP55, QK.use hV]
theorem among_ev (c h o s y : Int) (f k : Int) : EvQ Cx 123 [encG c h o s y, i64 f, i64 k] (.clo 155 [] [.fp [i64 f], .fp [i64 k]]) := by
  refine evQ_of CxB123 rfl (by simp [fn123]) ?_
  simp (disch := omega) only [go_sem, simprocAttr]
set_option maxHeartbeats 4000000 in
theorem giscache_yes (c h o s y : Int) (n : Int) (hk : OkG c h o s y) (l1 : 0 ≤ n) (l2 : n ≤ 255) : EvQ Cx 91 [encG c h o s y, i8 n] (bo (decide (n < c))) := by
  have hV := gvalid_yes c h o s y hk
  have hA := among_ev c h o s y 0 c
  obtain ⟨c1, c2, h1, h2, o1, o2, s1, s2, y1, y2⟩ := id hk
  refine evQ_of CxB91 rfl (by simp [fn91]) ?_
  simp (disch := omega) only [go_sem, simprocAttr, passK_shut CxP55, QK.use hV, passK_shut CxP123, QK.use hA, passK_in CxB155 CxP155, Int.zero_add]
/-! ### The reference -/
theorem within_ev (n k : Int) : EvQ Cx 58 [i64 n, i64 k] (bo (decide (1 ≤ n ∧ n ≤ k))) := by
  refine evQ_of CxB58 rfl (by simp [fn58]) ?_
  by_cases h1 : 1 ≤ n
  · by_cases h2 : n ≤ k
    · simp (disch := omega) only [go_sem, simprocAttr]
    · simp (disch := omega) only [go_sem, simprocAttr]
  · simp (disch := omega) only [go_sem, simprocAttr]
set_option maxHeartbeats 4000000 in
theorem rright_ev (c h o s y : Int) : EvQ Cx 33 [encG c h o s y] (bo (decide (OkG c h o s y))) := by
  have hc := within_ev c 4
  have hh := within_ev h 2
  have ho := within_ev o 4
  have hs := within_ev s 4
  have hy := within_ev y 4
  refine evQ_of CxB33 rfl (by simp [fn33]) ?_
  unfold OkG
  by_cases k1 : 1 ≤ c ∧ c ≤ 4
  case neg =>
    simp (disch := omega) only [go_sem, simprocAttr, passK_shut CxP58, QK.use hc, QK.use hh, QK.use ho, QK.use hs, QK.use hy]
    exact (decide_eq_false (by omega)).symm
  by_cases k2 : 1 ≤ h ∧ h ≤ 2
  case neg =>
    simp (disch := omega) only [go_sem, simprocAttr, passK_shut CxP58, QK.use hc, QK.use hh, QK.use ho, QK.use hs, QK.use hy]
    exact (decide_eq_false (by omega)).symm
  by_cases k3 : 1 ≤ o ∧ o ≤ 4
  case neg =>
    simp (disch := omega) only [go_sem, simprocAttr, passK_shut CxP58, QK.use hc, QK.use hh, QK.use ho, QK.use hs, QK.use hy]
    exact (decide_eq_false (by omega)).symm
  by_cases k4 : 1 ≤ s ∧ s ≤ 4
  case neg =>
    simp (disch := omega) only [go_sem, simprocAttr, passK_shut CxP58, QK.use hc, QK.use hh, QK.use ho, QK.use hs, QK.use hy]
    exact (decide_eq_false (by omega)).symm
  by_cases k5 : 1 ≤ y ∧ y ≤ 4
  · simp (disch := omega) only [go_sem, simprocAttr, passK_shut CxP58, QK.use hc, QK.use hh, QK.use ho, QK.use hs, QK.use hy]
    exact (decide_eq_true (by omega)).symm
  · simp (disch := omega) only [go_sem, simprocAttr, passK_shut CxP58, QK.use hc, QK.use hh, QK.use ho, QK.use hs, QK.use hy]
    exact (decide_eq_false (by omega)).symm
theorem rright_yes (c h o s y : Int) (hk : OkG c h o s y) : EvQ Cx 33 [encG c h o s y] (bo true) := by
  have := rright_ev c h o s y
  rwa [decide_eq_true hk] at this
set_option maxHeartbeats 4000000 in
theorem rset_yes (c h o s y : Int) (l : Int) (hk : OkG c h o s y) (l1 : 0 ≤ l) (l2 : l ≤ 255) : EvQ Cx 95 [encG c h o s y, i8 l] (i8 (l % s)) := by
  have hV := rright_yes c h o s y hk
  obtain ⟨c1, c2, h1, h2, o1, o2, s1, s2, y1, y2⟩ := id hk
  refine evQ_of CxB95 rfl (by simp [fn95]) ?_
  simp (disch := omega) only [go_sem, simprocAttr, passK_shut CxP33, QK.use hV]
set_option maxHeartbeats 4000000 in
theorem rline_yes (c h o s y : Int) (l : Int) (hk : OkG c h o s y) (l1 : 0 ≤ l) (l2 : l ≤ 255) : EvQ Cx 83 [encG c h o s y, i8 l] (i8 (l / o)) := by
  have hV := rright_yes c h o s y hk
  obtain ⟨c1, c2, h1, h2, o1, o2, s1, s2, y1, y2⟩ := id hk
  have d1 : 0 ≤ l / o := Int.ediv_nonneg (by omega) (by omega)
  have d2 : l / o ≤ 255 := Int.le_trans (Int.ediv_le_self _ l1) l2
  refine evQ_of CxB83 rfl (by simp [fn83]) ?_
  simp (disch := omega) only [go_sem, simprocAttr, passK_shut CxP33, QK.use hV]
set_option maxHeartbeats 4000000 in
theorem rhome_yes (c h o s y : Int) (l : Int) (hk : OkG c h o s y) (l1 : 0 ≤ l) (l2 : l ≤ 255) : EvQ Cx 61 [encG c h o s y, i8 l] (i8 (c + l % h)) := by
  have hV := rright_yes c h o s y hk
  obtain ⟨c1, c2, h1, h2, o1, o2, s1, s2, y1, y2⟩ := id hk
  have d1 := Int.emod_nonneg l (show h ≠ 0 by omega)
  have d2 := Int.emod_lt_of_pos l (show 0 < h by omega)
  refine evQ_of CxB61 rfl (by simp [fn61]) ?_
  simp (disch := omega) only [go_sem, simprocAttr, passK_shut CxP33, QK.use hV]
set_option maxHeartbeats 4000000 in
theorem riscache_yes (c h o s y : Int) (n : Int) (hk : OkG c h o s y) (l1 : 0 ≤ n) (l2 : n ≤ 255) : EvQ Cx 62 [encG c h o s y, i8 n] (bo (decide (n < c))) := by
  have hV := rright_yes c h o s y hk
  obtain ⟨c1, c2, h1, h2, o1, o2, s1, s2, y1, y2⟩ := id hk
  refine evQ_of CxB62 rfl (by simp [fn62]) ?_
  simp (disch := omega) only [go_sem, simprocAttr, passK_shut CxP33, QK.use hV]
end Go.Proofs.YtnhknhniemfnjaaGreatDoor.Ev
namespace Go.Proofs.YtnhknhniemfnjaaGreatDoor.Ev
open Go Go.RowKit
set_option maxRecDepth 100000
def locsTo (o l : Int) : Nat → List Int
  | 0 => []
  | n + 1 => locsTo o l n ++ (if (n : Int) / o = l then [(n : Int)] else [])
theorem locsTo_len (o l : Int) : ∀ n, (locsTo o l n).length ≤ n
  | 0 => Nat.le_refl _
  | n + 1 => by
    have := locsTo_len o l n
    simp only [locsTo, List.length_append]
    split <;> simp <;> omega
def SlU (H : Heap) (v : A) (L : List Int) : Prop := (L = [] ∧ v = .v (.slice none 0 0)) ∨ (L ≠ [] ∧ ∃ b, 1 ≤ b ∧ v = .ref b 0 L.length 1 ∧ H[b]? = some (some ⟨5, L.map i8, false⟩))
def slOf (L : List Int) : A := if L = [] then .v (.slice none 0 0) else .sl L.length (L.map i8)
theorem fz_i8 (H : Heap) (n : Nat) : ∀ L : List Int, mapO (freeze H (n + 1)) (L.map i8) = some (L.map i8)
  | [] => rfl
  | p :: L => by
    have ih := fz_i8 H n L
    simp only [List.map_cons, i8, mapO_cons, fz_v, ih, Option.bind_some, Option.map_some]
set_option maxHeartbeats 8000000 in
theorem locs_round (c h o s y : Int) {l : Int} (hk : OkG c h o s y) (l0 : 0 ≤ l) (l1 : l ≤ 255) {KK : List It} {Q : Ex → St → Prop} {n : Nat} (hn : n < 6) {H : Heap} {v : A} (h0 : H[0]? = some (some ⟨31, [i64 c, i64 h, i64 o, i64 s, i64 y], true⟩)) (hv : SlU H v (locsTo o l n))
    (hT : ∀ H' v', H'[0]? = some (some ⟨31, [i64 c, i64 h, i64 o, i64 s, i64 y], true⟩) → SlU H' v' (locsTo o l (n + 1)) → RunK Cx (.code (.loop m41_l0) :: KK) ⟨[(1, i8 l), (2, .ptr 0 0), (5, v'), (6, i8 ((n + 1 : Nat) : Int))], H'⟩ Q) :
    RunK Cx (.code (.loop m41_l0) :: KK) ⟨[(1, i8 l), (2, .ptr 0 0), (5, v), (6, i8 n)], H⟩ Q := by
  have hR := rright_yes c h o s y hk
  have hL := rline_yes c h o s y n hk (by omega) (by omega)
  have hlen := locsTo_len o l n
  have l0 := ap_low h0
  have hml : 1 ≤ maxLen := by decide
  have hm2 : (locsTo o l n).length + 1 ≤ maxLen := by
    have : 7 ≤ maxLen := by decide
    omega
  rw [runK_loop]
  by_cases hq : (n : Int) / o = l
  · have e1 : locsTo o l (n + 1) = locsTo o l n ++ [(n : Int)] := by simp [locsTo, hq]
    rw [e1] at hT
    rcases hv with ⟨hn0, rfl⟩ | ⟨hne, b, hb1, rfl, hb⟩
    · rw [hn0] at hT
      simp (disch := omega) only [go_sem, h0, l0, hml, beq_yes hq, List.append_assoc, List.length_append, simprocAttr, passK_shut CxP33, QK.use hR, passK_shut CxP83, QK.use hL]
      rw [loop_norm (l := [1, 2, 5, 6]) rfl]
      simp (disch := omega) only [go_sem, simprocAttr]
      exact hT _ _ (l0 _) (.inr ⟨by simp, H.length + 1, by omega, rfl, by rw [ap_getk']; rfl⟩)
    · have lb := ap_low hb
      have sb := ap_slow hb
      have hel : (List.map i8 (locsTo o l n)).length = (locsTo o l n).length := List.length_map ..
      have htl : List.take (locsTo o l n).length (List.map i8 (locsTo o l n)) = List.map i8 (locsTo o l n) := List.take_of_length_le (by simp)
      simp (disch := omega) only [go_sem, h0, l0, lb, sb, hml, hm2, htl, Nat.mul_one, Nat.le_refl, beq_yes hq, List.length_set, List.length_map, List.append_assoc, List.length_append, simprocAttr, passK_shut CxP33, QK.use hR, passK_shut CxP83, QK.use hL]
      rw [loop_norm (l := [1, 2, 5, 6]) rfl]
      simp (disch := omega) only [go_sem, simprocAttr]
      have hbl := len_of hb
      refine hT _ _ (ap_low (set_other h0 (by omega)) _) (.inr ⟨by simp, H.length + 1, by omega, by simp, ?_⟩)
      rw [as_getk]
      simp
  · have e1 : locsTo o l (n + 1) = locsTo o l n := by simp [locsTo, hq]
    rw [e1] at hT
    simp (disch := omega) only [go_sem, h0, beq_no hq, simprocAttr, passK_shut CxP33, QK.use hR, passK_shut CxP83, QK.use hL]
    rw [loop_norm (l := [1, 2, 5, 6]) rfl]
    simp (disch := omega) only [go_sem, simprocAttr]
    exact hT _ _ h0 hv
set_option maxHeartbeats 8000000 in
theorem rlocs_yes (c h o s y : Int) {l : Int} (hk : OkG c h o s y) (l0 : 0 ≤ l) (l1 : l ≤ 255) : EvQ Cx 41 [encG c h o s y, i8 l] (slOf (locsTo o l 6)) := by
  have hR := rright_yes c h o s y hk
  refine evQ_of CxB41 rfl (by simp [fn41]) ?_
  simp (disch := omega) only [go_sem, simprocAttr]
  rw [loop_norm (l := [1, 2, 5, 6]) rfl]
  simp (disch := omega) only [go_sem, simprocAttr]
  refine locs_round c h o s y hk l0 l1 (n := 0) (by decide) rfl (.inl ⟨rfl, rfl⟩) fun H1 v1 a1 b1 => ?_
  refine locs_round c h o s y hk l0 l1 (n := 1) (by decide) a1 b1 fun H1 v1 a1 b1 => ?_
  refine locs_round c h o s y hk l0 l1 (n := 2) (by decide) a1 b1 fun H1 v1 a1 b1 => ?_
  refine locs_round c h o s y hk l0 l1 (n := 3) (by decide) a1 b1 fun H1 v1 a1 b1 => ?_
  refine locs_round c h o s y hk l0 l1 (n := 4) (by decide) a1 b1 fun H1 v1 a1 b1 => ?_
  refine locs_round c h o s y hk l0 l1 (n := 5) (by decide) a1 b1 fun H1 v1 a1 b1 => ?_
  rw [runK_loop]
  generalize locsTo o l 6 = L at b1
  have e6 : ((5 + 1 : Nat) : Int) = 6 := rfl
  rcases b1 with ⟨hn0, rfl⟩ | ⟨hne, b, hb1, rfl, hb⟩
  · subst hn0
    simp (disch := omega) only [go_sem, slOf, a1, e6, Int.lt_irrefl, simprocAttr]
  · have htl : List.take L.length (List.map i8 L) = List.map i8 L := List.take_of_length_le (by simp)
    simp (disch := omega) only [go_sem, slOf, hne, a1, hb, e6, htl, fz_i8, Nat.mul_one, Nat.le_refl, List.length_map, Int.lt_irrefl, simprocAttr]
theorem slOf_len (L : List Int) : (slOf L = .v (.slice none 0 0) ∧ L.length = 0) ∨ slOf L = .sl L.length (L.map i8) := by
  unfold slOf
  split
  · rename_i h
    subst h
    exact .inl ⟨rfl, rfl⟩
  · exact .inr rfl
set_option maxHeartbeats 8000000 in
theorem lines_round (c h o s y : Int) (hk : OkG c h o s y) {KK : List It} {Q : Ex → St → Prop} {n : Nat} (hn : n < 6) {k k' : Nat} (hk6 : k ≤ 6) {H : Heap} (h0 : H[0]? = some (some ⟨31, [i64 c, i64 h, i64 o, i64 s, i64 y], true⟩)) (hkk : k' = if 0 < (locsTo o n 6).length then k + 1 else k)
    (hT : ∀ H', H'[0]? = some (some ⟨31, [i64 c, i64 h, i64 o, i64 s, i64 y], true⟩) → RunK Cx (.code (.loop m23_l0) :: KK) ⟨[(1, .ptr 0 0), (3, i64 k'), (4, i8 ((n + 1 : Nat) : Int))], H'⟩ Q) :
    RunK Cx (.code (.loop m23_l0) :: KK) ⟨[(1, .ptr 0 0), (3, i64 k), (4, i8 n)], H⟩ Q := by
  have hL := rlocs_yes c h o s y (l := n) hk (by omega) (by omega)
  rw [runK_loop]
  rcases slOf_len (locsTo o n 6) with ⟨e, e0⟩ | e
  · rw [e] at hL
    rw [e0, if_neg (by omega)] at hkk
    subst hkk
    simp (disch := omega) only [go_sem, h0, Int.lt_irrefl, simprocAttr, passK_shut CxP41, QK.use hL]
    rw [loop_norm (l := [1, 3, 4]) rfl]
    simp (disch := omega) only [go_sem, simprocAttr]
    exact hT _ h0
  · rw [e] at hL
    by_cases hz : 0 < (locsTo o n 6).length
    · rw [if_pos hz] at hkk
      subst hkk
      simp (disch := omega) only [go_sem, h0, hz, simprocAttr, passK_shut CxP41, QK.use hL]
      rw [loop_norm (l := [1, 3, 4]) rfl]
      simp (disch := omega) only [go_sem, simprocAttr]
      exact hT _ h0
    · rw [if_neg hz] at hkk
      subst hkk
      simp (disch := omega) only [go_sem, h0, simprocAttr, passK_shut CxP41, QK.use hL]
      rw [loop_norm (l := [1, 3, 4]) rfl]
      simp (disch := omega) only [go_sem, simprocAttr]
      exact hT _ h0
def cnt (o : Int) : Nat → Nat
  | 0 => 0
  | n + 1 => if 0 < (locsTo o n 6).length then cnt o n + 1 else cnt o n
theorem cnt_le (o : Int) : ∀ n, cnt o n ≤ n
  | 0 => Nat.le_refl _
  | n + 1 => by
    have := cnt_le o n
    simp only [cnt]
    split <;> omega
theorem cnt6 {o : Int} (o1 : 1 ≤ o) (o2 : o ≤ 4) : ((cnt o 6 : Nat) : Int) = 5 / o + 1 := by
  obtain rfl | rfl | rfl | rfl : o = 1 ∨ o = 2 ∨ o = 3 ∨ o = 4 := by omega
  all_goals decide +kernel
set_option maxHeartbeats 8000000 in
theorem rlines_yes (c h o s y : Int) (hk : OkG c h o s y) : EvQ Cx 23 [encG c h o s y] (i64 (5 / o + 1)) := by
  rw [← cnt6 hk.2.2.2.2.1 hk.2.2.2.2.2.1]
  refine evQ_of CxB23 rfl (by simp [fn23]) ?_
  simp (disch := omega) only [go_sem, simprocAttr]
  rw [loop_norm (l := [1, 3, 4]) rfl]
  simp (disch := omega) only [go_sem, simprocAttr]
  refine lines_round c h o s y hk (n := 0) (k := cnt o 0) (k' := cnt o 1) (by decide) (Nat.zero_le _) rfl rfl fun H1 a1 => ?_
  refine lines_round c h o s y hk (n := 1) (k := cnt o 1) (k' := cnt o 2) (by decide) (by have := cnt_le o 1; omega) a1 rfl fun H1 a1 => ?_
  refine lines_round c h o s y hk (n := 2) (k := cnt o 2) (k' := cnt o 3) (by decide) (by have := cnt_le o 2; omega) a1 rfl fun H1 a1 => ?_
  refine lines_round c h o s y hk (n := 3) (k := cnt o 3) (k' := cnt o 4) (by decide) (by have := cnt_le o 3; omega) a1 rfl fun H1 a1 => ?_
  refine lines_round c h o s y hk (n := 4) (k := cnt o 4) (k' := cnt o 5) (by decide) (by have := cnt_le o 4; omega) a1 rfl fun H1 a1 => ?_
  refine lines_round c h o s y hk (n := 5) (k := cnt o 5) (k' := cnt o 6) (by decide) (by have := cnt_le o 5; omega) a1 rfl fun H1 a1 => ?_
  have e6 : ((5 + 1 : Nat) : Int) = 6 := rfl
  rw [runK_loop]
  simp (disch := omega) only [go_sem, a1, e6, Int.lt_irrefl, simprocAttr]
end Go.Proofs.YtnhknhniemfnjaaGreatDoor.Ev
namespace Go.Proofs.YtnhknhniemfnjaaGreatDoor.Ev
open Go Go.RowKit
set_option maxRecDepth 100000
abbrev i64u (n : Int) : A := .v (.int .u64 n)
attribute [go_sem] i64u
abbrev encV (k m : Int) (a : Bool) : A := .agg [i8 k, i64u m, bo a]
attribute [go_sem] encV
/-! ### Bits -/
theorem ofInt_nat (m : Nat) : BitVec.ofInt 64 (m : Int) = BitVec.ofNat 64 m := by
  apply BitVec.eq_of_toNat_eq
  simp
theorem wrap64 {m : Nat} (h : m < 2 ^ 64) : IntKind.u64.wrap (m : Int) = m := wrap_u64 (by omega) (by omega)
theorem andNot_low {m n : Nat} (hm : m < 2 ^ 64) (hn : n ≤ 64) : (BitVec.ofNat 64 m &&& ~~~ BitVec.ofNat 64 (2 ^ n - 1)).toNat = 0 ↔ m < 2 ^ n := by
  constructor
  · intro h
    have h0 : BitVec.ofNat 64 m &&& ~~~ BitVec.ofNat 64 (2 ^ n - 1) = 0#64 := BitVec.eq_of_toNat_eq (by simpa using h)
    refine Nat.lt_pow_two_of_testBit _ fun i hi => ?_
    rcases Nat.lt_or_ge i 64 with h64 | h64
    · have := congrArg (fun x => x.getLsbD i) h0
      simp only [BitVec.getLsbD_and, BitVec.getLsbD_not, BitVec.getLsbD_ofNat, BitVec.getLsbD_zero, h64, decide_true, Bool.true_and, Nat.testBit_two_pow_sub_one, Nat.not_lt.2 hi, decide_false, Bool.not_false, Bool.and_true] at this
      simpa using this
    · exact Nat.testBit_lt_two_pow (Nat.lt_of_lt_of_le hm (Nat.pow_le_pow_right (by decide) h64))
  · intro h
    have : BitVec.ofNat 64 m &&& ~~~ BitVec.ofNat 64 (2 ^ n - 1) = 0#64 := by
      apply BitVec.eq_of_getLsbD_eq
      intro i hi
      simp only [BitVec.getLsbD_and, BitVec.getLsbD_not, BitVec.getLsbD_ofNat, BitVec.getLsbD_zero, hi, decide_true, Bool.true_and, Nat.testBit_two_pow_sub_one]
      rcases Nat.lt_or_ge i n with h1 | h1
      · simp [h1]
      · rw [Nat.testBit_lt_two_pow (Nat.lt_of_lt_of_le h (Nat.pow_le_pow_right (by decide) h1))]
        simp
    rw [this]
    rfl
theorem andNot_eq {m n : Nat} (hm : m < 2 ^ 64) (hn : n ≤ 64) {k : Int} (hk : k = ((2 ^ n - 1 : Nat) : Int)) : (IntKind.u64.wrap ((BitVec.ofInt IntKind.u64.bits (m : Int) &&& ~~~ BitVec.ofInt IntKind.u64.bits k).toNat : Int) == 0) = decide (m < 2 ^ n) := by
  subst hk
  rw [show IntKind.u64.bits = 64 from rfl, ofInt_nat, ofInt_nat, wrap64 (BitVec.isLt _)]
  have := andNot_low hm hn
  by_cases h : m < 2 ^ n
  · rw [decide_eq_true h, this.2 h]
    rfl
  · rw [decide_eq_false h]
    have h' : ¬ (BitVec.ofNat 64 m &&& ~~~ BitVec.ofNat 64 (2 ^ n - 1)).toNat = 0 := fun e => h (this.1 e)
    exact beq_no fun e => h' (Int.natCast_eq_zero.1 e)
theorem has_bit (m : Nat) (b : Nat) : ((((m : Int).fdiv (2 ^ b)).tmod 2) == 1) = m.testBit b := by
  have e : ((2 : Int) ^ b) = ((2 ^ b : Nat) : Int) := by simp
  rw [e, Int.fdiv_eq_ediv_of_nonneg _ (Int.natCast_nonneg _), ← Int.natCast_ediv, Int.tmod_eq_emod_of_nonneg (Int.natCast_nonneg _), Nat.testBit_eq_decide_div_mod_eq]
  rw [ show (2 : Int) = ((2 : Nat) : Int) from rfl, ← Int.natCast_emod]
  generalize m / 2 ^ b % 2 = z
  by_cases h : z = 1
  · subst h
    rfl
  · rw [decide_eq_false h]
    exact beq_no (by omega)
def popB (m : Nat) : Nat → Nat
  | 0 => 0
  | b + 1 => popB m b + if m.testBit b then 1 else 0
theorem popB_le (m : Nat) : ∀ b, popB m b ≤ b
  | 0 => Nat.le_refl _
  | b + 1 => by
    have := popB_le m b
    simp only [popB]
    split <;> omega
def morB (m n : Nat) : Nat → Bool
  | 0 => false
  | b + 1 => morB m n b || (m.testBit b && decide (n ≤ b))
theorem morB_iff (m n : Nat) : ∀ b, morB m n b = true ↔ ∃ j, j < b ∧ n ≤ j ∧ m.testBit j = true
  | 0 => by simp [morB]
  | b + 1 => by
    simp only [morB, Bool.or_eq_true, Bool.and_eq_true, decide_eq_true_eq, morB_iff m n b]
    constructor
    · rintro (⟨j, h1, h2⟩ | ⟨h1, h2⟩)
      · exact ⟨j, by omega, h2⟩
      · exact ⟨b, by omega, h2, h1⟩
    · rintro ⟨j, h1, h2, h3⟩
      rcases Nat.lt_or_ge j b with h | h
      · exact .inl ⟨j, h, h2, h3⟩
      · obtain rfl : j = b := by omega
        exact .inr ⟨h3, h2⟩
theorem morB_all {m n : Nat} (hm : m < 2 ^ 64) : morB m n 64 = decide (2 ^ n ≤ m) := by
  by_cases h : 2 ^ n ≤ m
  · rw [decide_eq_true h, morB_iff]
    apply Classical.byContradiction
    intro hno
    have : m < 2 ^ n := Nat.lt_pow_two_of_testBit _ fun i hi => by
      rcases Nat.lt_or_ge i 64 with h64 | h64
      · cases hb : m.testBit i with
        | false => rfl
        | true => exact absurd ⟨i, h64, hi, hb⟩ hno
      · exact Nat.testBit_lt_two_pow (Nat.lt_of_lt_of_le hm (Nat.pow_le_pow_right (by decide) h64))
    omega
  · rw [decide_eq_false h]
    cases hb : morB m n 64 with
    | false => rfl
    | true =>
      obtain ⟨j, -, h2, h3⟩ := (morB_iff m n 64).1 hb
      have := Nat.testBit_lt_two_pow (x := m) (i := j) (Nat.lt_of_lt_of_le (Nat.not_le.1 h) (Nat.pow_le_pow_right (by decide) h2))
      rw [h3] at this
      cases this
/-! ### The reference -/
set_option maxHeartbeats 4000000 in
theorem has_ev {m b : Nat} (hb : b < 64) : EvQ Cx 45 [i64u m, i64 b] (bo (m.testBit b)) := by
  have h1 := has_bit m b
  have h2 : min b 64 = b := by omega
  refine evQ_of CxB45 rfl (by simp [fn45]) ?_
  simp (disch := omega) only [go_sem, IntKind.bits, h1, h2, simprocAttr]
theorem rkind_ev (k : Int) : EvQ Cx 63 [i8 k] (bo (decide (1 ≤ k ∧ k ≤ 3))) := by
  refine evQ_of CxB63 rfl (by simp [fn63]) ?_
  by_cases h1 : 1 ≤ k
  · by_cases h2 : k ≤ 3
    · simp (disch := omega) only [go_sem, simprocAttr]
    · simp (disch := omega) only [go_sem, simprocAttr]
  · simp (disch := omega) only [go_sem, simprocAttr]
theorem rcaches_ev (k : Int) : EvQ Cx 64 [i64 k] (bo (decide (1 ≤ k ∧ k ≤ 4))) := by
  refine evQ_of CxB64 rfl (by simp [fn64]) ?_
  by_cases h1 : 1 ≤ k
  · by_cases h2 : k ≤ 4
    · simp (disch := omega) only [go_sem, simprocAttr]
    · simp (disch := omega) only [go_sem, simprocAttr]
  · simp (disch := omega) only [go_sem, simprocAttr]
set_option maxHeartbeats 8000000 in
theorem bits_loop {m n : Nat} {KK : List It} {Q : Ex → St → Prop} (hT : UnwK Cx (.out 0) KK ⟨[(10, bo false), (9, i64 64), (0, i64u m), (1, i64 n), (6, i64 (popB m 64)), (7, bo (morB m n 64)), (8, i64 64)], []⟩ Q) :
    ∀ (d b : Nat), b + d = 64 → RunK Cx (.code (.loop m65_l0) :: KK) ⟨[(0, i64u m), (1, i64 n), (6, i64 (popB m b)), (7, bo (morB m n b)), (8, i64 b)], []⟩ Q := by
  intro d
  induction d with
  | zero =>
    intro b hb
    obtain rfl : b = 64 := by omega
    have e : ((64 : Nat) : Int) = 64 := rfl
    rw [runK_loop]
    simp (disch := omega) only [go_sem, e, Int.lt_irrefl, simprocAttr]
    exact hT
  | succ d ih =>
    intro b hb
    have hh := has_ev (m := m) (b := b) (by omega)
    have hp := popB_le m b
    have := ih (b + 1) (by omega)
    rw [runK_loop]
    cases ht : m.testBit b with
    | false =>
      rw [ht] at hh
      simp only [popB, morB, ht, Bool.false_eq_true, if_false, Nat.add_zero, Bool.false_and, Bool.or_false] at this
      simp (disch := omega) only [go_sem, simprocAttr, passK_shut CxP45, QK.use hh]
      rw [loop_norm (l := [0, 1, 6, 7, 8]) rfl]
      simp (disch := omega) only [go_sem, simprocAttr]
      exact this
    | true =>
      rw [ht] at hh
      simp only [popB, morB, ht, if_true, Bool.true_and] at this
      cases hm : morB m n b with
      | true =>
        simp only [hm, Bool.true_or] at this
        simp (disch := omega) only [go_sem, simprocAttr, passK_shut CxP45, QK.use hh]
        rw [loop_norm (l := [0, 1, 6, 7, 8]) rfl]
        simp (disch := omega) only [go_sem, simprocAttr]
        exact this
      | false =>
        simp only [hm, Bool.false_or] at this
        by_cases hn : n ≤ b
        · rw [decide_eq_true hn] at this
          simp (disch := omega) only [go_sem, simprocAttr, passK_shut CxP45, QK.use hh]
          rw [loop_norm (l := [0, 1, 6, 7, 8]) rfl]
          simp (disch := omega) only [go_sem, simprocAttr]
          exact this
        · rw [decide_eq_false hn] at this
          simp (disch := omega) only [go_sem, simprocAttr, passK_shut CxP45, QK.use hh]
          rw [loop_norm (l := [0, 1, 6, 7, 8]) rfl]
          simp (disch := omega) only [go_sem, simprocAttr]
          exact this
theorem bits_ev {m : Nat} (hm : m < 2 ^ 64) (n : Nat) : EvQ Cx 65 [i64u m, i64 n] (.tup [i64 (popB m 64), bo (decide (2 ^ n ≤ m))]) := by
  rw [← morB_all hm]
  refine evQ_of CxB65 rfl (by simp [fn65]) ?_
  simp (disch := omega) only [go_sem, simprocAttr]
  rw [loop_norm (l := [0, 1, 6, 7, 8]) rfl]
  simp (disch := omega) only [go_sem, simprocAttr]
  refine bits_loop (m := m) (n := n) ?_ 64 0 rfl
  simp (disch := omega) only [go_sem, simprocAttr]
end Go.Proofs.YtnhknhniemfnjaaGreatDoor.Ev
namespace Go.Proofs.YtnhknhniemfnjaaGreatDoor.Ev
open Go Go.RowKit
set_option maxRecDepth 100000
def vwOk (k : Int) (m : Nat) (a : Bool) (n : Nat) : Bool :=
  if k = 1 then !a && decide (m < 2 ^ n)
  else if k = 2 then (if a then decide (m = 0) else decide (m < 2 ^ n) && decide (popB m 64 ≤ 2))
  else if k = 3 then !a && decide (m < 2 ^ ((n + 1) / 2))
  else false
theorem pop_zero : ∀ m, m < 16 → popB m 64 = 0 → m = 0 := by decide +kernel
theorem pop_zero' : popB 0 64 = 0 := by decide +kernel
theorem ones16 {m : Nat} (h : m < 16) : EvQ Cx 94 [i64u m] (i64 (popB m 64)) := by
  obtain rfl | rfl | rfl | rfl | rfl | rfl | rfl | rfl | rfl | rfl | rfl | rfl | rfl | rfl | rfl | rfl : m = 0 ∨ m = 1 ∨ m = 2 ∨ m = 3 ∨ m = 4 ∨ m = 5 ∨ m = 6 ∨ m = 7 ∨ m = 8 ∨ m = 9 ∨ m = 10 ∨ m = 11 ∨ m = 12 ∨ m = 13 ∨ m = 14 ∨ m = 15 := by omega
  all_goals exact evQ_fast 200 (by kernel_rfl)
theorem below_ev {n : Nat} (h : n ≤ 4) : EvQ Cx 93 [i64 n] (i64u ((2 ^ n - 1 : Nat) : Int)) := by
  obtain rfl | rfl | rfl | rfl | rfl : n = 0 ∨ n = 1 ∨ n = 2 ∨ n = 3 ∨ n = 4 := by omega
  all_goals exact evQ_fast 200 (by kernel_rfl)
theorem counts_ev {n : Nat} (h0 : 1 ≤ n) (h : n ≤ 4) : EvQ Cx 92 [i64 n] (bo true) := by
  obtain rfl | rfl | rfl | rfl : n = 1 ∨ n = 2 ∨ n = 3 ∨ n = 4 := by omega
  all_goals exact evQ_fast 200 (by kernel_rfl)
set_option maxHeartbeats 16000000 in
theorem vright_ev (k : Int) {m : Nat} (hm : m < 2 ^ 64) (a : Bool) {n : Nat} (n1 : 1 ≤ n) (n4 : n ≤ 4) : EvQ Cx 57 [encV k m a, i64 n] (bo (vwOk k m a n)) := by
  have hc := counts_ev n1 n4
  have hb := below_ev n4
  have hb2 := below_ev (n := (n + 1) / 2) (by omega)
  have hA := andNot_eq (k := ((2 ^ n - 1 : Nat) : Int)) hm (show n ≤ 64 by omega) rfl
  have hA2 := andNot_eq (k := ((2 ^ ((n + 1) / 2) - 1 : Nat) : Int)) hm (show (n + 1) / 2 ≤ 64 by omega) rfl
  have hdiv : ((n : Int) + 1) / 2 = (((n + 1) / 2 : Nat) : Int) := by omega
  simp (disch := omega) only [go_sem, simprocAttr] at hA hA2
  refine evQ_of CxB57 rfl (by simp [fn57]) ?_
  unfold vwOk
  have h16 : 2 ^ n ≤ 2 ^ 4 := Nat.pow_le_pow_right (by decide) n4
  by_cases k1 : k = 1
  · subst k1
    rw [if_pos rfl]
    cases hq : decide (m < 2 ^ n) <;> cases a
    all_goals have hq2 := hq
    all_goals simp (disch := omega) only [go_sem, simprocAttr, passK_shut CxP92, QK.use hc, passK_shut CxP93, QK.use hb, QK.use hb2, passK_shut CxP94, hA, hA2, hq, hq2, hdiv]
    all_goals rfl
  by_cases k2 : k = 2
  · subst k2
    rw [if_neg (by decide), if_pos rfl]
    cases a with
    | true =>
      have hq : True := trivial
      have hq2 : True := trivial
      by_cases h0 : m = 0
      · subst h0
        simp (disch := omega) only [go_sem, simprocAttr, passK_shut CxP92, QK.use hc, passK_shut CxP93, QK.use hb, QK.use hb2, passK_shut CxP94, hA, hA2, hq, hq2, hdiv]
      · simp (disch := omega) only [go_sem, simprocAttr, passK_shut CxP92, QK.use hc]
    | false =>
      cases hq : decide (m < 2 ^ n) with
      | false =>
        have hq2 := hq
        simp (disch := omega) only [go_sem, simprocAttr, passK_shut CxP92, QK.use hc, passK_shut CxP93, QK.use hb, QK.use hb2, passK_shut CxP94, hA, hA2, hq, hq2, hdiv]
      | true =>
        have hone := ones16 (m := m) (by have := of_decide_eq_true hq; omega)
        have hp := popB_le m 64
        by_cases h2 : popB m 64 ≤ 2
        · simp (disch := omega) only [go_sem, h2, simprocAttr, passK_shut CxP92, QK.use hc, passK_shut CxP93, QK.use hb, passK_shut CxP94, QK.use hone, hA, hq]
        · simp (disch := omega) only [go_sem, h2, simprocAttr, passK_shut CxP92, QK.use hc, passK_shut CxP93, QK.use hb, passK_shut CxP94, QK.use hone, hA, hq]
  by_cases k3 : k = 3
  · subst k3
    rw [if_neg (by decide), if_neg (by decide), if_pos rfl]
    cases hq : decide (m < 2 ^ ((n + 1) / 2)) <;> cases a
    all_goals have hq2 := hq
    all_goals simp (disch := omega) only [go_sem, simprocAttr, passK_shut CxP92, QK.use hc, passK_shut CxP93, QK.use hb, QK.use hb2, passK_shut CxP94, hA, hA2, hq, hq2, hdiv]
    all_goals rfl
  · rw [if_neg k1, if_neg k2, if_neg k3]
    simp (disch := omega) only [go_sem, beq_no k1, beq_no k2, beq_no k3, simprocAttr, passK_shut CxP92, QK.use hc]
set_option maxHeartbeats 16000000 in
theorem rvright_ev (k : Int) {m : Nat} (hm : m < 2 ^ 64) (a : Bool) {n : Nat} (n1 : 1 ≤ n) (n4 : n ≤ 4) : EvQ Cx 36 [encV k m a, i64 n] (bo (vwOk k m a n)) := by
  have hc := rcaches_ev n
  have hk := rkind_ev k
  have hb := bits_ev hm n
  have hb2 := bits_ev hm ((n + 1) / 2)
  have hdiv : ((n : Int) + 1) / 2 = (((n + 1) / 2 : Nat) : Int) := by omega
  rw [decide_eq_true (show 1 ≤ (n : Int) ∧ (n : Int) ≤ 4 by omega)] at hc
  have flip : ∀ j, decide (m < 2 ^ j) = !decide (2 ^ j ≤ m) := fun j => by
    by_cases h : m < 2 ^ j
    · rw [decide_eq_true h, decide_eq_false (by omega)]
      rfl
    · rw [decide_eq_false h, decide_eq_true (by omega)]
      rfl
  refine evQ_of CxB36 rfl (by simp [fn36]) ?_
  unfold vwOk
  have h16 : 2 ^ n ≤ 2 ^ 4 := Nat.pow_le_pow_right (by decide) n4
  rw [flip, flip]
  have hp := popB_le m 64
  by_cases k1 : k = 1
  · subst k1
    rw [decide_eq_true (by decide)] at hk
    rw [if_pos rfl]
    cases hq : decide (2 ^ n ≤ m) <;> cases a
    all_goals simp (disch := omega) only [go_sem, simprocAttr, passK_shut CxP63, QK.use hk, passK_shut CxP64, QK.use hc, passK_shut CxP65, QK.use hb, QK.use hb2, hdiv, hq]
  by_cases k2 : k = 2
  · subst k2
    rw [decide_eq_true (by decide)] at hk
    rw [if_neg (by decide), if_pos rfl]
    by_cases hq : 2 ^ n ≤ m
    · have h0 : ¬ m = 0 := by
        have := Nat.two_pow_pos n
        omega
      cases a
      all_goals simp (disch := omega) only [go_sem, simprocAttr, passK_shut CxP63, QK.use hk, passK_shut CxP64, QK.use hc, passK_shut CxP65, QK.use hb, QK.use hb2, hdiv, hq]
      all_goals simp [h0]
    · by_cases h2 : popB m 64 ≤ 2
      · by_cases h0 : popB m 64 = 0
        · obtain rfl := pop_zero m (by omega) h0
          have h00 : ((popB 0 64 : Nat) : Int) = 0 := by rw [pop_zero']; rfl
          simp only [i64u, Int.natCast_zero] at hb hb2
          cases a
          all_goals simp (disch := omega) only [go_sem, simprocAttr, passK_shut CxP63, QK.use hk, passK_shut CxP64, QK.use hc, passK_shut CxP65, QK.use hb, hq, h00, pop_zero']
        · have hm0 : ¬ m = 0 := fun e => h0 (by rw [e, pop_zero'])
          have hz : ¬ ((popB m 64 : Nat) : Int) = 0 := by omega
          cases a
          all_goals simp (disch := omega) only [go_sem, simprocAttr, passK_shut CxP63, QK.use hk, passK_shut CxP64, QK.use hc, passK_shut CxP65, QK.use hb, hq, h2, beq_no hz, hm0]
      · have hm0 : ¬ m = 0 := fun e => h2 (by rw [e, pop_zero']; decide)
        cases a
        all_goals simp (disch := omega) only [go_sem, simprocAttr, passK_shut CxP63, QK.use hk, passK_shut CxP64, QK.use hc, passK_shut CxP65, QK.use hb, hq, h2, hm0]
  by_cases k3 : k = 3
  · subst k3
    rw [decide_eq_true (by decide)] at hk
    rw [if_neg (by decide), if_neg (by decide), if_pos rfl]
    cases hq : decide (2 ^ ((n + 1) / 2) ≤ m) <;> cases a
    all_goals simp (disch := omega) only [go_sem, simprocAttr, passK_shut CxP63, QK.use hk, passK_shut CxP64, QK.use hc, passK_shut CxP65, QK.use hb, QK.use hb2, hdiv, hq]
  · rw [if_neg k1, if_neg k2, if_neg k3]
    rw [decide_eq_false (by omega)] at hk
    simp (disch := omega) only [go_sem, simprocAttr, passK_shut CxP63, QK.use hk]
end Go.Proofs.YtnhknhniemfnjaaGreatDoor.Ev
namespace Go.Proofs.YtnhknhniemfnjaaGreatDoor.Ev
open Go Go.RowKit
set_option maxRecDepth 100000
def toldB (k : Int) (m : Nat) (a : Bool) (c : Nat) : Bool := a || (if k = 3 then m.testBit (c / 2) else m.testBit c)
def toldV (k : Int) (m : Nat) (a : Bool) (n : Nat) : Nat := (List.range n).foldl (fun s c => if toldB k m a c then s + 2 ^ c else s) 0
noncomputable def tabV (f : FuncId) (N : Nat) : Bool := ([1, 2, 3] : List Int).all fun k => (List.range 16).all fun m => [true, false].all fun a => ([1, 2, 3, 4] : List Nat).all fun n =>
  match (callsF Cx N).1 f [encV k m a, i64 n] with
  | some x => eqA x (i64u (toldV k m a n))
  | none => false
theorem tabV_ev {f : FuncId} {N : Nat} (h : tabV f N = true) {k : Int} {m n : Nat} {a : Bool} (hk : k = 1 ∨ k = 2 ∨ k = 3) (hm : m < 16) (n1 : 1 ≤ n) (n4 : n ≤ 4) : EvQ Cx f [encV k m a, i64 n] (i64u (toldV k m a n)) := by
  have h1 := List.all_eq_true.1 h k (by simp; omega)
  have h2 := List.all_eq_true.1 h1 m (List.mem_range.2 hm)
  have h3 := List.all_eq_true.1 h2 a (by cases a <;> simp)
  have h4 := List.all_eq_true.1 h3 n (by simp; omega)
  cases hx : (callsF Cx N).1 f [encV k m a, i64 n] with
  | none => simp [hx] at h4
  | some x =>
    simp only [hx] at h4
    rw [← eqA_eq _ _ h4]
    exact evQ_fast N hx
theorem told_tab : tabV 98 300 = true := by kernel_rfl
theorem rtold_tab : tabV 46 300 = true := by kernel_rfl
theorem vwOk_small {k : Int} {m n : Nat} {a : Bool} (n4 : n ≤ 4) (h : vwOk k m a n = true) : (k = 1 ∨ k = 2 ∨ k = 3) ∧ m < 16 := by
  have h16 : 2 ^ n ≤ 2 ^ 4 := Nat.pow_le_pow_right (by decide) n4
  have h8 : 2 ^ ((n + 1) / 2) ≤ 2 ^ 4 := Nat.pow_le_pow_right (by decide) (by omega)
  unfold vwOk at h
  split at h
  · simp at h
    exact ⟨.inl ‹_›, by omega⟩
  · split at h
    · split at h
      · simp at h
        exact ⟨.inr (.inl ‹_›), by omega⟩
      · simp at h
        exact ⟨.inr (.inl ‹_›), by omega⟩
    · split at h
      · simp at h
        exact ⟨.inr (.inr ‹_›), by omega⟩
      · cases h
theorem told_ev {k : Int} {m n : Nat} {a : Bool} (n1 : 1 ≤ n) (n4 : n ≤ 4) (h : vwOk k m a n = true) : EvQ Cx 98 [encV k m a, i64 n] (i64u (toldV k m a n)) := tabV_ev told_tab (vwOk_small n4 h).1 (vwOk_small n4 h).2 n1 n4
theorem rtold_ev {k : Int} {m n : Nat} {a : Bool} (n1 : 1 ≤ n) (n4 : n ≤ 4) (h : vwOk k m a n = true) : EvQ Cx 46 [encV k m a, i64 n] (i64u (toldV k m a n)) := tabV_ev rtold_tab (vwOk_small n4 h).1 (vwOk_small n4 h).2 n1 n4
theorem told_bits : ∀ k ∈ ([1, 2, 3] : List Int), ∀ m < 16, ∀ a : Bool, ∀ n ≤ 4, ∀ c < n, (toldV k m a n).testBit c = toldB k m a c := by decide +kernel
theorem told_bit {k : Int} {m n c : Nat} {a : Bool} (n4 : n ≤ 4) (h : vwOk k m a n = true) (hc : c < n) : (toldV k m a n).testBit c = toldB k m a c :=
  told_bits k (by have := (vwOk_small n4 h).1; simp; omega) m (vwOk_small n4 h).2 a n n4 c hc
theorem told_lts : ∀ k ∈ ([1, 2, 3] : List Int), ∀ m < 16, ∀ a : Bool, ∀ n ≤ 4, toldV k m a n < 16 := by decide +kernel
theorem told_lt {k : Int} {m n : Nat} {a : Bool} (n4 : n ≤ 4) (h : vwOk k m a n = true) : toldV k m a n < 16 :=
  told_lts k (by have := (vwOk_small n4 h).1; simp; omega) m (vwOk_small n4 h).2 a n n4
end Go.Proofs.YtnhknhniemfnjaaGreatDoor.Ev
namespace Go.Proofs.YtnhknhniemfnjaaGreatDoor.Ev
open Go Go.RowKit
set_option maxRecDepth 100000
def ordR (w : Nat) : List Int → Nat → Nat → Bool
  | [], _, _ => true
  | o :: l, p, s => if w ≤ p then decide (o = 0) && ordR w l (p + 1) s else if (w : Int) ≤ o ∨ s.testBit o.toNat = true then false else ordR w l (p + 1) (s ||| 2 ^ o.toNat)
theorem bit_shl : ∀ o : Nat, o < 4 → IntKind.u64.wrap (1 * 2 ^ (min o IntKind.u64.bits)) = ((2 ^ o : Nat) : Int) := by decide +kernel
theorem bit_and : ∀ s : Nat, s < 16 → ∀ o : Nat, o < 4 → (IntKind.u64.wrap ((BitVec.ofInt IntKind.u64.bits (s : Int) &&& BitVec.ofInt IntKind.u64.bits ((2 ^ o : Nat) : Int)).toNat : Int) != 0) = s.testBit o := by decide +kernel
theorem bit_or : ∀ s : Nat, s < 16 → ∀ o : Nat, o < 4 → IntKind.u64.wrap ((BitVec.ofInt IntKind.u64.bits (s : Int) ||| BitVec.ofInt IntKind.u64.bits ((2 ^ o : Nat) : Int)).toNat : Int) = ((s ||| 2 ^ o : Nat) : Int) := by decide +kernel
theorem or_lt : ∀ s : Nat, s < 16 → ∀ o : Nat, o < 4 → s ||| 2 ^ o < 16 := by decide +kernel
set_option maxHeartbeats 8000000 in
theorem ord_round {k b o0 o1 o2 o3 o : Int} {w : Nat} (w1 : 1 ≤ w) (w4 : w ≤ 4) {KK : List It} {Q : Ex → St → Prop} {p s : Nat} (hp : p < 4) (hs : s < 16) (hix : ([i8 o0, i8 o1, i8 o2, i8 o3] : List A)[p]? = some (i8 o)) (b0 : 0 ≤ o) (b1 : o ≤ 255) {l : List Int}
    (hF' : ordR w (o :: l) p s = false → UnwK Cx .back KK ⟨[(2, bo false)], [some ⟨87, [i8 k, i64 w, i8 o0, i8 o1, i8 o2, i8 o3, i8 b], true⟩]⟩ Q)
    (hT : ∀ s', s' < 16 → ordR w (o :: l) p s = ordR w l (p + 1) s' → RunK Cx (.code (.loop m122_l0) :: KK) ⟨[(1, .ptr 0 0), (3, i64u s'), (7, .agg [i8 o0, i8 o1, i8 o2, i8 o3]), (8, i64 ((p : Int) + 1))], [some ⟨87, [i8 k, i64 w, i8 o0, i8 o1, i8 o2, i8 o3, i8 b], true⟩]⟩ Q) :
    RunK Cx (.code (.loop m122_l0) :: KK) ⟨[(1, .ptr 0 0), (3, i64u s), (7, .agg [i8 o0, i8 o1, i8 o2, i8 o3]), (8, i64 p)], [some ⟨87, [i8 k, i64 w, i8 o0, i8 o1, i8 o2, i8 o3, i8 b], true⟩]⟩ Q := by
  have hp' : p + 1 ≤ 4 := hp
  rw [runK_loop]
  by_cases hwp : w ≤ p
  · by_cases h0 : o = 0
    · have := hT s hs (by simp [ordR, hwp, h0])
      subst h0
      simp (disch := omega) only [go_sem, hix, hp, hp', Nat.mul_one, simprocAttr]
      rw [loop_norm (l := [1, 3, 7, 8]) rfl]
      simp (disch := omega) only [go_sem, simprocAttr]
      exact this
    · have := hF' (by simp [ordR, hwp, h0])
      simp (disch := omega) only [go_sem, hix, hp, hp', Nat.mul_one, simprocAttr]
      exact this
  · by_cases hwo : (w : Int) ≤ o
    · have := hF' (by simp [ordR, hwp, hwo])
      simp (disch := omega) only [go_sem, hix, hp, hp', Nat.mul_one, simprocAttr]
      exact this
    · obtain ⟨n, rfl⟩ : ∃ n : Nat, o = n := ⟨o.toNat, by omega⟩
      have hn : n < 4 := by omega
      have hshl := bit_shl n hn
      have hand := bit_and s hs n hn
      have hor := bit_or s hs n hn
      simp (disch := omega) only [go_sem, simprocAttr] at hshl hand hor
      cases ht : s.testBit n with
      | true =>
        have := hF' (by simp [ordR, hwp, ht])
        rw [ht] at hand
        simp (disch := omega) only [go_sem, hix, hp, hp', Nat.mul_one, hshl, hand, simprocAttr]
        exact this
      | false =>
        have := hT (s ||| 2 ^ n) (or_lt s hs n hn) (by simp [ordR, hwp, hwo, ht])
        rw [ht] at hand
        simp (disch := omega) only [go_sem, hix, hp, hp', Nat.mul_one, hshl, hand, hor, simprocAttr]
        rw [loop_norm (l := [1, 3, 7, 8]) rfl]
        simp (disch := omega) only [go_sem, simprocAttr]
        exact this
set_option maxHeartbeats 8000000 in
theorem ordered_ev {k b o0 o1 o2 o3 : Int} {w : Nat} (w1 : 1 ≤ w) (w4 : w ≤ 4) (a0 : 0 ≤ o0 ∧ o0 ≤ 255) (a1 : 0 ≤ o1 ∧ o1 ≤ 255) (a2 : 0 ≤ o2 ∧ o2 ≤ 255) (a3 : 0 ≤ o3 ∧ o3 ≤ 255) :
    EvQ Cx 122 [.agg [i8 k, i64 w, i8 o0, i8 o1, i8 o2, i8 o3, i8 b]] (bo (ordR w [o0, o1, o2, o3] 0 0)) := by
  refine evQ_of CxB122 rfl (by simp [fn122]) ?_
  simp (disch := omega) only [go_sem, simprocAttr]
  rw [loop_norm (l := [1, 3, 7, 8]) rfl]
  simp (disch := omega) only [go_sem, simprocAttr]
  refine ord_round w1 w4 (p := 0) (s := 0) (l := [o1, o2, o3]) (by decide) (by decide) rfl a0.1 a0.2 (fun h => ?_) (fun s1 g1 e1 => ?_)
  · rw [h]
    simp (disch := omega) only [go_sem, simprocAttr]
  rw [e1]
  refine ord_round w1 w4 (p := 1) (s := s1) (l := [o2, o3]) (by decide) g1 rfl a1.1 a1.2 (fun h => ?_) (fun s2 g2 e2 => ?_)
  · rw [h]
    simp (disch := omega) only [go_sem, simprocAttr]
  rw [e2]
  refine ord_round w1 w4 (p := 2) (s := s2) (l := [o3]) (by decide) g2 rfl a2.1 a2.2 (fun h => ?_) (fun s3 g3 e3 => ?_)
  · rw [h]
    simp (disch := omega) only [go_sem, simprocAttr]
  rw [e3]
  refine ord_round w1 w4 (p := 3) (s := s3) (l := []) (by decide) g3 rfl a3.1 a3.2 (fun h => ?_) (fun s4 g4 e4 => ?_)
  · rw [h]
    simp (disch := omega) only [go_sem, simprocAttr]
  rw [e4]
  have e : (((3 : Nat) : Int) + 1) = 4 := rfl
  rw [runK_loop]
  simp (disch := omega) only [go_sem, e, Int.lt_irrefl, simprocAttr]
  rfl
def rpOk (k w o0 o1 o2 o3 b : Int) : Bool :=
  if w < 1 ∨ 4 < w then false
  else if k = 3 then decide (b < 8) && decide (o0 = 0 ∧ o1 = 0 ∧ o2 = 0 ∧ o3 = 0)
  else if k = 1 ∨ k = 2 ∨ k = 4 then decide (b = 0) && ordR w.toNat [o0, o1, o2, o3] 0 0
  else false
set_option maxHeartbeats 16000000 in
theorem rpright_ev {k w b o0 o1 o2 o3 : Int} (a0 : 0 ≤ o0 ∧ o0 ≤ 255) (a1 : 0 ≤ o1 ∧ o1 ≤ 255) (a2 : 0 ≤ o2 ∧ o2 ≤ 255) (a3 : 0 ≤ o3 ∧ o3 ≤ 255) :
    EvQ Cx 88 [.agg [i8 k, i64 w, i8 o0, i8 o1, i8 o2, i8 o3, i8 b]] (bo (rpOk k w o0 o1 o2 o3 b)) := by
  refine evQ_of CxB88 rfl (by simp [fn88]) ?_
  unfold rpOk
  by_cases hw1 : w < 1
  · rw [if_pos (.inl hw1)]
    simp (disch := omega) only [go_sem, simprocAttr, passK_shut CxP122]
  by_cases hw4 : 4 < w
  · rw [if_pos (.inr hw4)]
    simp (disch := omega) only [go_sem, simprocAttr, passK_shut CxP122]
  rw [if_neg (by omega)]
  obtain ⟨n, rfl⟩ : ∃ n : Nat, w = n := ⟨w.toNat, by omega⟩
  have hord := ordered_ev (k := k) (b := b) (w := n) (by omega) (by omega) a0 a1 a2 a3
  by_cases k3 : k = 3
  · subst k3
    rw [if_pos rfl]
    by_cases hb : b < 8
    · by_cases z0 : o0 = 0 <;> by_cases z1 : o1 = 0 <;> by_cases z2 : o2 = 0 <;> by_cases z3 : o3 = 0
      all_goals simp (disch := omega) only [go_sem, simprocAttr, passK_shut CxP122]
      all_goals simp [hb, z0, z1, z2, z3]
    · simp (disch := omega) only [go_sem, simprocAttr, passK_shut CxP122]
  rw [if_neg k3, Int.toNat_natCast]
  by_cases hk : k = 1 ∨ k = 2 ∨ k = 4
  · rw [if_pos hk]
    by_cases hb : b = 0
    · subst hb
      rcases hk with rfl | rfl | rfl
      all_goals simp (disch := omega) only [go_sem, simprocAttr, passK_shut CxP122, QK.use hord]
    · rcases hk with rfl | rfl | rfl
      all_goals simp (disch := omega) only [go_sem, simprocAttr, passK_shut CxP122]
      all_goals simp [hb]
  · rw [if_neg hk]
    have k1 : ¬ k = 1 := fun e => hk (.inl e)
    have k2 : ¬ k = 2 := fun e => hk (.inr (.inl e))
    have k4 : ¬ k = 4 := fun e => hk (.inr (.inr e))
    simp (disch := omega) only [go_sem, simprocAttr, passK_shut CxP122]
/-! ### The reference -/
def osF (o0 o1 o2 o3 : Int) (i : Nat) : Int := [o0, o1, o2, o3].getD i 0
def anyB (f : Nat → Int) (p : Nat) : Nat → Bool
  | 0 => false
  | i + 1 => anyB f p i || decide (f i = p)
set_option maxHeartbeats 8000000 in
theorem any_loop {k b o0 o1 o2 o3 : Int} {w : Nat} (w4 : w ≤ 4) (hb : ∀ i, i < 4 → 0 ≤ osF o0 o1 o2 o3 i ∧ osF o0 o1 o2 o3 i ≤ 255) {KK : List It} {Q : Ex → St → Prop} {p : Nat} (hp : p < 4)
    (hT : UnwK Cx (.out 2) KK ⟨[(54, bo false), (53, i64 w), (52, .ptr 0 1), (51, i64 w), (1, .ptr 0 0), (3, i64 p), (4, bo (anyB (osF o0 o1 o2 o3) p w)), (5, i64 w)], [some ⟨87, [i8 k, i64 w, i8 o0, i8 o1, i8 o2, i8 o3, i8 b], true⟩]⟩ Q) :
    ∀ (d i : Nat), i + d = w → RunK Cx (.code (.loop m60_l1) :: KK) ⟨[(1, .ptr 0 0), (3, i64 p), (4, bo (anyB (osF o0 o1 o2 o3) p i)), (5, i64 i)], [some ⟨87, [i8 k, i64 w, i8 o0, i8 o1, i8 o2, i8 o3, i8 b], true⟩]⟩ Q := by
  intro d
  induction d with
  | zero =>
    intro i hi
    obtain rfl : i = w := by omega
    rw [runK_loop]
    simp (disch := omega) only [go_sem, Int.lt_irrefl, simprocAttr]
    exact hT
  | succ d ih =>
    intro i hi
    have hi4 : i < 4 := by omega
    have hd : ∀ r : List A, List.drop (2 + i) [A.v (.int .u8 k), A.v (.int .i64 w), A.v (.int .u8 o0), A.v (.int .u8 o1), A.v (.int .u8 o2), A.v (.int .u8 o3), A.v (.int .u8 b)] = i8 (osF o0 o1 o2 o3 i) :: List.drop (3 + i) [i8 k, i64 w, i8 o0, i8 o1, i8 o2, i8 o3, i8 b] := fun _ => by
      obtain rfl | rfl | rfl | rfl : i = 0 ∨ i = 1 ∨ i = 2 ∨ i = 3 := by omega
      all_goals rfl
    have hd := hd []
    obtain ⟨b0, b1⟩ := hb i hi4
    have := ih (i + 1) (by omega)
    rw [runK_loop]
    cases ha : anyB (osF o0 o1 o2 o3) p i with
    | true =>
      simp only [anyB, ha, Bool.true_or] at this
      simp (disch := omega) only [go_sem, hi4, simprocAttr]
      rw [loop_norm (l := [1, 3, 4, 5]) rfl]
      simp (disch := omega) only [go_sem, simprocAttr]
      exact this
    | false =>
      simp only [anyB, ha, Bool.false_or] at this
      by_cases he : osF o0 o1 o2 o3 i = p
      · rw [decide_eq_true he] at this
        simp (disch := omega) only [go_sem, hi4, hd, Nat.mul_one, beq_yes he, simprocAttr]
        rw [loop_norm (l := [1, 3, 4, 5]) rfl]
        simp (disch := omega) only [go_sem, simprocAttr]
        exact this
      · rw [decide_eq_false he] at this
        simp (disch := omega) only [go_sem, hi4, hd, Nat.mul_one, beq_no he, simprocAttr]
        rw [loop_norm (l := [1, 3, 4, 5]) rfl]
        simp (disch := omega) only [go_sem, simprocAttr]
        exact this
def refAt (w : Nat) (f : Nat → Int) (p : Nat) : Bool := if w ≤ p then decide (f p = 0) else anyB f p w
set_option maxHeartbeats 16000000 in
theorem ref_round {k b o0 o1 o2 o3 : Int} {w : Nat} (w4 : w ≤ 4) (hb : ∀ i, i < 4 → 0 ≤ osF o0 o1 o2 o3 i ∧ osF o0 o1 o2 o3 i ≤ 255) {KK : List It} {Q : Ex → St → Prop} {p : Nat} (hp : p < 4)
    (hF : refAt w (osF o0 o1 o2 o3) p = false → UnwK Cx .back KK ⟨[(2, bo false)], [some ⟨87, [i8 k, i64 w, i8 o0, i8 o1, i8 o2, i8 o3, i8 b], true⟩]⟩ Q)
    (hT : refAt w (osF o0 o1 o2 o3) p = true → RunK Cx (.code (.loop m60_l0) :: KK) ⟨[(1, .ptr 0 0), (3, i64 ((p : Int) + 1))], [some ⟨87, [i8 k, i64 w, i8 o0, i8 o1, i8 o2, i8 o3, i8 b], true⟩]⟩ Q) :
    RunK Cx (.code (.loop m60_l0) :: KK) ⟨[(1, .ptr 0 0), (3, i64 p)], [some ⟨87, [i8 k, i64 w, i8 o0, i8 o1, i8 o2, i8 o3, i8 b], true⟩]⟩ Q := by
  have hd : List.drop (2 + p) [A.v (.int .u8 k), A.v (.int .i64 w), A.v (.int .u8 o0), A.v (.int .u8 o1), A.v (.int .u8 o2), A.v (.int .u8 o3), A.v (.int .u8 b)] = i8 (osF o0 o1 o2 o3 p) :: List.drop (3 + p) [i8 k, i64 w, i8 o0, i8 o1, i8 o2, i8 o3, i8 b] := by
    obtain rfl | rfl | rfl | rfl : p = 0 ∨ p = 1 ∨ p = 2 ∨ p = 3 := by omega
    all_goals rfl
  obtain ⟨b0, b1⟩ := hb p hp
  rw [runK_loop]
  by_cases hwp : w ≤ p
  · by_cases h0 : osF o0 o1 o2 o3 p = 0
    · have := hT (by simp [refAt, hwp, h0])
      simp (disch := omega) only [go_sem, hp, hwp, hd, h0, Nat.mul_one, simprocAttr]
      rw [loop_norm (l := [1, 3, 4, 5]) rfl]
      simp (disch := omega) only [go_sem, simprocAttr]
      refine any_loop (k := k) (b := b) w4 hb hp (i := 0) ?_ w (by omega)
      simp (disch := omega) only [go_sem, hwp, simprocAttr]
      rw [loop_norm (l := [1, 3]) rfl]
      simp (disch := omega) only [go_sem, simprocAttr]
      exact this
    · have := hF (by simp [refAt, hwp, h0])
      simp (disch := omega) only [go_sem, hp, hwp, hd, bne_yes h0, Nat.mul_one, simprocAttr]
      exact this
  · have ha : refAt w (osF o0 o1 o2 o3) p = anyB (osF o0 o1 o2 o3) p w := by simp [refAt, hwp]
    rw [ha] at hF hT
    simp (disch := omega) only [go_sem, hp, hwp, Nat.mul_one, simprocAttr]
    rw [loop_norm (l := [1, 3, 4, 5]) rfl]
    simp (disch := omega) only [go_sem, simprocAttr]
    refine any_loop (k := k) (b := b) w4 hb hp (i := 0) ?_ w (by omega)
    cases hA : anyB (osF o0 o1 o2 o3) p w with
    | true =>
      have := hT hA
      simp (disch := omega) only [go_sem, hwp, simprocAttr]
      rw [loop_norm (l := [1, 3]) rfl]
      simp (disch := omega) only [go_sem, simprocAttr]
      exact this
    | false =>
      have := hF hA
      simp (disch := omega) only [go_sem, hwp, simprocAttr]
      exact this
theorem ordR_min {w : Nat} (w4 : w ≤ 4) : ∀ (l : List Int) (p s : Nat), (∀ o ∈ l, 0 ≤ o) → ordR w l p s = ordR w (l.map fun o => min o 4) p s
  | [], _, _, _ => rfl
  | o :: l, p, s, h => by
    have ho := h o (.head _)
    have hl : ∀ o ∈ l, 0 ≤ o := fun x hx => h x (.tail _ hx)
    rw [List.map_cons]
    unfold ordR
    by_cases hw : w ≤ p
    · rw [if_pos hw, if_pos hw, ordR_min w4 l _ _ hl]
      congr 1
      exact decide_eq_decide.2 (by omega)
    · rw [if_neg hw, if_neg hw]
      by_cases h4 : o < 4
      · rw [show min o 4 = o by omega]
        split
        · rfl
        · exact ordR_min w4 l _ _ hl
      · rw [if_pos (.inl (by omega)), if_pos (.inl (by omega))]
theorem anyB_min (f : Nat → Int) {p : Nat} (hp : p < 4) : ∀ w, anyB f p w = anyB (fun i => min (f i) 4) p w
  | 0 => rfl
  | i + 1 => by
    simp only [anyB, anyB_min f hp i]
    congr 1
    exact decide_eq_decide.2 (by omega)
theorem refAt_min (w : Nat) (f : Nat → Int) {p : Nat} (hp : p < 4) (h0 : 0 ≤ f p) : refAt w f p = refAt w (fun i => min (f i) 4) p := by
  unfold refAt
  split
  · show decide (f p = 0) = decide (min (f p) 4 = 0)
    exact decide_eq_decide.2 (by omega)
  · exact anyB_min f hp w
theorem anyB_congr {f g : Nat → Int} {p : Nat} : ∀ {w : Nat}, (∀ i, i < w → f i = g i) → anyB f p w = anyB g p w
  | 0, _ => rfl
  | i + 1, h => by
    simp only [anyB]
    rw [anyB_congr fun j hj => h j (by omega), h i (by omega)]
theorem ord_tab0 : ((List.range 5).all fun w => (List.range 5).all fun a => (List.range 5).all fun b => (List.range 5).all fun c => (List.range 5).all fun d => Nat.beq w 0 || (ordR w [(a : Int), b, c, d] 0 0 == (refAt w (osF a b c d) 0 && (refAt w (osF a b c d) 1 && (refAt w (osF a b c d) 2 && refAt w (osF a b c d) 3))))) = true := by kernel_rfl
theorem ord_tab {w a b c d : Nat} (hw : w < 5) (ha : a < 5) (hb : b < 5) (hc : c < 5) (hd : d < 5) (w1 : 1 ≤ w) : ordR w [(a : Int), b, c, d] 0 0 = (refAt w (osF a b c d) 0 && (refAt w (osF a b c d) 1 && (refAt w (osF a b c d) 2 && refAt w (osF a b c d) 3))) := by
  have h1 := List.all_eq_true.1 ord_tab0 w (List.mem_range.2 hw)
  have h2 := List.all_eq_true.1 h1 a (List.mem_range.2 ha)
  have h3 := List.all_eq_true.1 h2 b (List.mem_range.2 hb)
  have h4 := List.all_eq_true.1 h3 c (List.mem_range.2 hc)
  have h5 := List.all_eq_true.1 h4 d (List.mem_range.2 hd)
  rcases Bool.or_eq_true_iff.1 h5 with h | h
  · have := Nat.eq_of_beq_eq_true h
    omega
  · exact eq_of_beq h
theorem ord_ref {w : Nat} (w1 : 1 ≤ w) (w4 : w ≤ 4) {o0 o1 o2 o3 : Int} (a0 : 0 ≤ o0) (a1 : 0 ≤ o1) (a2 : 0 ≤ o2) (a3 : 0 ≤ o3) :
    ordR w [o0, o1, o2, o3] 0 0 = (refAt w (osF o0 o1 o2 o3) 0 && (refAt w (osF o0 o1 o2 o3) 1 && (refAt w (osF o0 o1 o2 o3) 2 && refAt w (osF o0 o1 o2 o3) 3))) := by
  obtain ⟨a, ha⟩ : ∃ a : Nat, min o0 4 = a := ⟨(min o0 4).toNat, by omega⟩
  obtain ⟨b, hb⟩ : ∃ a : Nat, min o1 4 = a := ⟨(min o1 4).toNat, by omega⟩
  obtain ⟨c, hc⟩ : ∃ a : Nat, min o2 4 = a := ⟨(min o2 4).toNat, by omega⟩
  obtain ⟨d, hd⟩ : ∃ a : Nat, min o3 4 = a := ⟨(min o3 4).toNat, by omega⟩
  have hf : ∀ p, p < 4 → refAt w (osF o0 o1 o2 o3) p = refAt w (osF a b c d) p := fun p hp => by
    have e : ∀ i, i < 4 → min (osF o0 o1 o2 o3 i) 4 = osF a b c d i := fun i hi => by
      obtain rfl | rfl | rfl | rfl : i = 0 ∨ i = 1 ∨ i = 2 ∨ i = 3 := by omega
      · exact ha
      · exact hb
      · exact hc
      · exact hd
    have h0 : 0 ≤ osF o0 o1 o2 o3 p := by
      obtain rfl | rfl | rfl | rfl : p = 0 ∨ p = 1 ∨ p = 2 ∨ p = 3 := by omega
      · exact a0
      · exact a1
      · exact a2
      · exact a3
    rw [refAt_min w _ hp h0]
    unfold refAt
    split
    · show decide (min (osF o0 o1 o2 o3 p) 4 = 0) = _
      rw [e p hp]
    · exact anyB_congr fun i hi => e i (by omega)
  rw [ordR_min w4 _ _ _ (by simp; omega), hf 0 (by decide), hf 1 (by decide), hf 2 (by decide), hf 3 (by decide)]
  simp only [List.map_cons, List.map_nil, ha, hb, hc, hd]
  exact ord_tab (by omega) (by omega) (by omega) (by omega) (by omega) w1
set_option maxHeartbeats 16000000 in
theorem rrpright_ev {k w b o0 o1 o2 o3 : Int} (a0 : 0 ≤ o0 ∧ o0 ≤ 255) (a1 : 0 ≤ o1 ∧ o1 ≤ 255) (a2 : 0 ≤ o2 ∧ o2 ≤ 255) (a3 : 0 ≤ o3 ∧ o3 ≤ 255) :
    EvQ Cx 60 [.agg [i8 k, i64 w, i8 o0, i8 o1, i8 o2, i8 o3, i8 b]] (bo (rpOk k w o0 o1 o2 o3 b)) := by
  refine evQ_of CxB60 rfl (by simp [fn60]) ?_
  unfold rpOk
  by_cases hk1 : k < 1
  · rw [if_neg (show ¬ k = 3 by omega), if_neg (show ¬ (k = 1 ∨ k = 2 ∨ k = 4) by omega), ite_self]
    simp (disch := omega) only [go_sem, simprocAttr]
  by_cases hk4 : 4 < k
  · rw [if_neg (show ¬ k = 3 by omega), if_neg (show ¬ (k = 1 ∨ k = 2 ∨ k = 4) by omega), ite_self]
    simp (disch := omega) only [go_sem, simprocAttr]
  by_cases hw1 : w < 1
  · rw [if_pos (.inl hw1)]
    simp (disch := omega) only [go_sem, simprocAttr]
  by_cases hw4 : 4 < w
  · rw [if_pos (.inr hw4)]
    simp (disch := omega) only [go_sem, simprocAttr]
  rw [if_neg (by omega)]
  obtain ⟨n, rfl⟩ : ∃ n : Nat, w = n := ⟨w.toNat, by omega⟩
  have hbs : ∀ i, i < 4 → 0 ≤ osF o0 o1 o2 o3 i ∧ osF o0 o1 o2 o3 i ≤ 255 := fun i hi => by
    obtain rfl | rfl | rfl | rfl : i = 0 ∨ i = 1 ∨ i = 2 ∨ i = 3 := by omega
    · exact a0
    · exact a1
    · exact a2
    · exact a3
  by_cases k3 : k = 3
  · subst k3
    rw [if_pos rfl]
    by_cases hb : b < 8
    · by_cases z0 : o0 = 0 <;> by_cases z1 : o1 = 0 <;> by_cases z2 : o2 = 0 <;> by_cases z3 : o3 = 0
      all_goals simp (disch := omega) only [go_sem, simprocAttr]
      all_goals simp [hb, z0, z1, z2, z3]
    · simp (disch := omega) only [go_sem, simprocAttr]
  rw [if_neg k3, Int.toNat_natCast, if_pos (show k = 1 ∨ k = 2 ∨ k = 4 by omega), ord_ref (by omega) (by omega) a0.1 a1.1 a2.1 a3.1]
  simp (disch := omega) only [go_sem, beq_no k3, simprocAttr]
  rw [loop_norm (l := [1, 3]) rfl]
  simp (disch := omega) only [go_sem, simprocAttr]
  refine ref_round (k := k) (b := b) (w := n) (by omega) hbs (p := 0) (by decide) (fun h => ?_) (fun h0 => ?_)
  · rw [h]
    simp (disch := omega) only [go_sem, simprocAttr]
  refine ref_round (k := k) (b := b) (w := n) (by omega) hbs (p := 1) (by decide) (fun h => ?_) (fun h1 => ?_)
  · rw [h]
    simp (disch := omega) only [go_sem, simprocAttr]
  refine ref_round (k := k) (b := b) (w := n) (by omega) hbs (p := 2) (by decide) (fun h => ?_) (fun h2 => ?_)
  · rw [h]
    simp (disch := omega) only [go_sem, simprocAttr]
  refine ref_round (k := k) (b := b) (w := n) (by omega) hbs (p := 3) (by decide) (fun h => ?_) (fun h3 => ?_)
  · rw [h]
    simp (disch := omega) only [go_sem, simprocAttr]
  rw [h0, h1, h2, h3]
  have e : (((3 : Nat) : Int) + 1) = 4 := rfl
  rw [runK_loop]
  by_cases hb : b = 0
  · simp (disch := omega) only [go_sem, e, Int.lt_irrefl, beq_yes hb, simprocAttr]
  · simp (disch := omega) only [go_sem, e, Int.lt_irrefl, beq_no hb, simprocAttr]
end Go.Proofs.YtnhknhniemfnjaaGreatDoor.Ev
namespace Go.Proofs.YtnhknhniemfnjaaGreatDoor.Ev
open Go Go.RowKit
set_option maxRecDepth 100000
structure Mg where
  kind : Int
  src : Int
  dst : Int
  line : Int
  asker : Int
  acks : Int
  alone : Bool
  d0 : Int
  d1 : Int
  d2 : Int
  d3 : Int
structure Mg.Ok (m : Mg) : Prop where
  kind : 0 ≤ m.kind ∧ m.kind ≤ 255
  src : 0 ≤ m.src ∧ m.src ≤ 255
  dst : 0 ≤ m.dst ∧ m.dst ≤ 255
  line : 0 ≤ m.line ∧ m.line ≤ 255
  asker : 0 ≤ m.asker ∧ m.asker ≤ 255
  acks : 0 ≤ m.acks ∧ m.acks ≤ 255
  d0 : 0 ≤ m.d0 ∧ m.d0 ≤ 255
  d1 : 0 ≤ m.d1 ∧ m.d1 ≤ 255
  d2 : 0 ≤ m.d2 ∧ m.d2 ≤ 255
  d3 : 0 ≤ m.d3 ∧ m.d3 ≤ 255
abbrev cM (m : Mg) : List A := [i8 m.kind, i8 m.src, i8 m.dst, i8 m.line, i8 m.asker, i8 m.acks, bo m.alone, i8 m.d0, i8 m.d1, i8 m.d2, i8 m.d3]
attribute [go_sem] cM
abbrev encM (m : Mg) : A := .agg (cM m)
attribute [go_sem] encM
abbrev encT (m : Mg) (c h o s y b : Int) : A := .agg [i8 m.kind, i8 m.src, i8 m.dst, i8 m.line, i8 m.asker, i8 m.acks, bo m.alone, i8 m.d0, i8 m.d1, i8 m.d2, i8 m.d3, i64 c, i64 h, i64 o, i64 s, i64 y, i8 b]
attribute [go_sem] encT
def hasB (b t : Int) : Bool := IntKind.u8.wrap ((BitVec.ofInt IntKind.u8.bits b &&& BitVec.ofInt IntKind.u8.bits t).toNat : Int) != 0
theorem has_evM (m : Mg) {c h o s y : Int} (b t : Int) : EvQ Cx 90 [encT m c h o s y b, i8 t] (bo (hasB b t)) := by
  refine evQ_of CxB90 rfl (by simp [fn90]) ?_
  unfold hasB
  simp (disch := omega) only [go_sem, simprocAttr]
def endsB (c h : Int) (m : Mg) (fh fc th tc : Bool) : Bool := (fh && decide (m.src = c + m.line % h) || fc && decide (m.src < c)) && (th && decide (m.dst = c + m.line % h) || tc && decide (m.dst < c)) && decide (m.src ≠ m.dst)
set_option maxHeartbeats 16000000 in
theorem ends_ev {m : Mg} (hm : m.Ok) {c h o s y : Int} (hk : OkG c h o s y) {b : Int} {fh fc th tc : Bool} (b16 : hasB b 16 = fh) (b32 : hasB b 32 = fc) (b64 : hasB b 64 = th) (b128 : hasB b 128 = tc)
    (hfl : (fh, fc, th, tc) = (false, true, true, false) ∨ (fh, fc, th, tc) = (true, false, false, true) ∨ (fh, fc, th, tc) = (true, true, false, true) ∨ (fh, fc, th, tc) = (false, true, false, true)) :
    EvQ Cx 52 [encT m c h o s y b] (bo (endsB c h m fh fc th tc)) := by
  have e1 := has_evM m (c := c) (h := h) (o := o) (s := s) (y := y) b
  have hH := ghome_yes c h o s y m.line hk hm.line.1 hm.line.2
  have hS := giscache_yes c h o s y m.src hk hm.src.1 hm.src.2
  have hD := giscache_yes c h o s y m.dst hk hm.dst.1 hm.dst.2
  obtain ⟨c1, c2, h1, h2, o1, o2, s1, s2, y1, y2⟩ := id hk
  have d1 := Int.emod_nonneg m.line (show h ≠ 0 by omega)
  refine evQ_of CxB52 rfl (by simp [fn52]) ?_
  unfold endsB
  generalize m.line % h = z at hH d1
  rcases hfl with hfl | hfl | hfl | hfl <;> simp only [Prod.mk.injEq] at hfl <;> obtain ⟨rfl, rfl, rfl, rfl⟩ := hfl
  · by_cases p1 : m.src < c <;> by_cases p2 : m.dst = c + z
    all_goals simp (disch := omega) only [go_sem, simprocAttr, passK_shut CxP90, QK.use (e1 16), QK.use (e1 32), QK.use (e1 64), QK.use (e1 128), b16, b32, b64, b128, passK_shut CxP89, QK.use hH, passK_shut CxP91, QK.use hS, QK.use hD]
    all_goals (try simp)
    all_goals (try omega)
  · by_cases p1 : m.src = c + z <;> by_cases p2 : m.dst < c
    all_goals simp (disch := omega) only [go_sem, simprocAttr, passK_shut CxP90, QK.use (e1 16), QK.use (e1 32), QK.use (e1 64), QK.use (e1 128), b16, b32, b64, b128, passK_shut CxP89, QK.use hH, passK_shut CxP91, QK.use hS, QK.use hD]
    all_goals (try simp)
    all_goals (try omega)
  · by_cases p1 : m.src = c + z <;> by_cases p2 : m.dst < c <;> by_cases p3 : m.src < c <;> by_cases p4 : m.src = m.dst
    all_goals first
      | (exfalso; omega)
      | skip
    all_goals simp (disch := omega) only [go_sem, simprocAttr, passK_shut CxP90, QK.use (e1 16), QK.use (e1 32), QK.use (e1 64), QK.use (e1 128), b16, b32, b64, b128, passK_shut CxP89, QK.use hH, passK_shut CxP91, QK.use hS, QK.use hD]
    all_goals (try simp)
    all_goals (try omega)
  · by_cases p1 : m.src < c <;> by_cases p2 : m.dst < c <;> by_cases p3 : m.src = m.dst
    all_goals first
      | (exfalso; omega)
      | skip
    all_goals simp (disch := omega) only [go_sem, simprocAttr, passK_shut CxP90, QK.use (e1 16), QK.use (e1 32), QK.use (e1 64), QK.use (e1 128), b16, b32, b64, b128, passK_shut CxP89, QK.use hH, passK_shut CxP91, QK.use hS, QK.use hD]
    all_goals (try simp)
    all_goals (try omega)
def valsB (c : Int) (m : Mg) (a1 : Bool) : Bool := !(a1 && (!decide (m.asker < c) || decide (m.asker = m.dst))) && (decide (m.acks < c) && (!m.alone || !decide (m.src < c)))
set_option maxHeartbeats 16000000 in
theorem values_ev {m : Mg} (hm : m.Ok) {c h o s y : Int} (hk : OkG c h o s y) {b : Int} {a1 : Bool} (b1 : hasB b 1 = a1) :
    EvQ Cx 53 [encT m c h o s y b] (bo (valsB c m a1)) := by
  have hA := giscache_yes c h o s y m.asker hk hm.asker.1 hm.asker.2
  have hS := giscache_yes c h o s y m.src hk hm.src.1 hm.src.2
  obtain ⟨k1, k2⟩ := hm.acks
  obtain ⟨c1, c2, h1, h2, o1, o2, s1, s2, y1, y2⟩ := id hk
  obtain ⟨kd, sr, ds, ln, ak, ac, al, d0, d1, d2, d3⟩ := m
  simp only at hA hS k1 k2
  refine evQ_of CxB53 rfl (by simp [fn53]) ?_
  unfold valsB
  simp only
  cases al <;> cases a1
  all_goals have e1 := fun al t => has_evM ⟨kd, sr, ds, ln, ak, ac, al, d0, d1, d2, d3⟩ (c := c) (h := h) (o := o) (s := s) (y := y) b t
  · by_cases p3 : ac < c
    all_goals simp (disch := omega) only [go_sem, simprocAttr, passK_shut CxP90, QK.use (e1 true 1), QK.use (e1 false 1), b1, passK_shut CxP91, QK.use hA, QK.use hS]
    all_goals (try simp [p3])
  · by_cases p1 : ak < c <;> by_cases p2 : ak = ds <;> by_cases p3 : ac < c
    all_goals simp (disch := omega) only [go_sem, simprocAttr, passK_shut CxP90, QK.use (e1 true 1), QK.use (e1 false 1), b1, passK_shut CxP91, QK.use hA, QK.use hS]
    all_goals (try simp [p1, p2, p3])
  · by_cases p3 : ac < c <;> by_cases p4 : sr < c
    all_goals simp (disch := omega) only [go_sem, simprocAttr, passK_shut CxP90, QK.use (e1 true 1), QK.use (e1 false 1), b1, passK_shut CxP91, QK.use hA, QK.use hS]
    all_goals (try simp [p3, p4])
  · by_cases p1 : ak < c <;> by_cases p2 : ak = ds <;> by_cases p3 : ac < c <;> by_cases p4 : sr < c
    all_goals simp (disch := omega) only [go_sem, simprocAttr, passK_shut CxP90, QK.use (e1 true 1), QK.use (e1 false 1), b1, passK_shut CxP91, QK.use hA, QK.use hS]
    all_goals (try simp [p1, p2, p3, p4])
theorem zb (x : Int) : (0 == x) = decide (x = 0) := by
  by_cases h : x = 0
  · subst h
    rfl
  · rw [decide_eq_false h]
    exact beq_no fun e => h e.symm
def plainB (o : Int) (m : Mg) (a1 a2 a4 a8 : Bool) : Bool := (a1 || decide (m.asker = 0)) && ((a2 || decide (m.acks = 0)) && ((a4 || !m.alone) && ((a8 && decide (1 ≤ o) || decide (m.d0 = 0)) && ((a8 && decide (2 ≤ o) || decide (m.d1 = 0)) && ((a8 && decide (3 ≤ o) || decide (m.d2 = 0)) && (a8 && decide (4 ≤ o) || decide (m.d3 = 0)))))))
set_option maxHeartbeats 16000000 in
theorem plain_ev {m : Mg} {c h o s y : Int} (hk : OkG c h o s y) {b : Int} {a1 a2 a4 a8 : Bool} (b1 : hasB b 1 = a1) (b2 : hasB b 2 = a2) (b4 : hasB b 4 = a4) (b8 : hasB b 8 = a8)
    (hfl : (a1, a2, a4, a8) = (false, false, false, false) ∨ (a1, a2, a4, a8) = (false, false, false, true) ∨ (a1, a2, a4, a8) = (true, false, false, false) ∨ (a1, a2, a4, a8) = (true, true, false, false) ∨ (a1, a2, a4, a8) = (false, true, true, true) ∨ (a1, a2, a4, a8) = (false, true, false, false)) :
    EvQ Cx 54 [encT m c h o s y b] (bo (plainB o m a1 a2 a4 a8)) := by
  have e1 := has_evM m (c := c) (h := h) (o := o) (s := s) (y := y) b
  have hml4 : 4 ≤ maxLen := by decide
  have hbl4 : Nat.ble 4 maxLen = true := by decide
  have hbl5 : Nat.ble 11 11 = true := rfl
  have hbl6 : Nat.ble 11 17 = true := rfl
  have mn1 : min 4 1 = 1 := rfl
  have mn2 : min 4 2 = 2 := rfl
  have mn3 : min 4 3 = 3 := rfl
  have mn4 : min 4 4 = 4 := rfl
  obtain ⟨c1, c2, h1, h2, o1, o2, s1, s2, y1, y2⟩ := id hk
  refine evQ_of CxB54 rfl (by simp [fn54]) ?_
  unfold plainB
  rcases hfl with hfl | hfl | hfl | hfl | hfl | hfl <;> simp only [Prod.mk.injEq] at hfl <;> obtain ⟨rfl, rfl, rfl, rfl⟩ := hfl
  · simp (disch := omega) only [go_sem, simprocAttr, passK_shut CxP90, QK.use (e1 1), QK.use (e1 2), QK.use (e1 4), QK.use (e1 8), b1, b2, b4, b8, hml4, hbl4, hbl5, hbl6, mn1, mn2, mn3, mn4]
    simp [zb]
  · obtain rfl | rfl | rfl | rfl : o = 1 ∨ o = 2 ∨ o = 3 ∨ o = 4 := by omega
    all_goals simp (disch := omega) only [go_sem, simprocAttr, passK_shut CxP90, QK.use (e1 1), QK.use (e1 2), QK.use (e1 4), QK.use (e1 8), b1, b2, b4, b8, hml4, hbl4, hbl5, hbl6, mn1, mn2, mn3, mn4]
    all_goals (try simp [zb])
  · simp (disch := omega) only [go_sem, simprocAttr, passK_shut CxP90, QK.use (e1 1), QK.use (e1 2), QK.use (e1 4), QK.use (e1 8), b1, b2, b4, b8, hml4, hbl4, hbl5, hbl6, mn1, mn2, mn3, mn4]
    simp [zb]
  · simp (disch := omega) only [go_sem, simprocAttr, passK_shut CxP90, QK.use (e1 1), QK.use (e1 2), QK.use (e1 4), QK.use (e1 8), b1, b2, b4, b8, hml4, hbl4, hbl5, hbl6, mn1, mn2, mn3, mn4]
    simp [zb]
  · obtain rfl | rfl | rfl | rfl : o = 1 ∨ o = 2 ∨ o = 3 ∨ o = 4 := by omega
    all_goals simp (disch := omega) only [go_sem, simprocAttr, passK_shut CxP90, QK.use (e1 1), QK.use (e1 2), QK.use (e1 4), QK.use (e1 8), b1, b2, b4, b8, hml4, hbl4, hbl5, hbl6, mn1, mn2, mn3, mn4]
    all_goals (try simp [zb])
  · simp (disch := omega) only [go_sem, simprocAttr, passK_shut CxP90, QK.use (e1 1), QK.use (e1 2), QK.use (e1 4), QK.use (e1 8), b1, b2, b4, b8, hml4, hbl4, hbl5, hbl6, mn1, mn2, mn3, mn4]
    simp [zb]
end Go.Proofs.YtnhknhniemfnjaaGreatDoor.Ev
