/- The second invariant of a line (the reference). -/
import Derived.Test.YtnhknhniemfnjaaGreatDoorN1
import Derived.Test.YtnhknhniemfnjaaGreatDoorN2
set_option linter.unusedSimpArgs false
set_option linter.unusedVariables false
namespace Go.Proofs.YtnhknhniemfnjaaGreatDoor.Ev
open Go Go.RowKit
set_option maxRecDepth 100000
structure Dr where
  state : Int
  owner : Int
  kind : Int
  mask : Nat
  all : Bool
  wait : Int
  asker : Int
  d0 : Int
  d1 : Int
  d2 : Int
  d3 : Int
structure Dr.Ok (d : Dr) : Prop where
  state : 0 ≤ d.state ∧ d.state ≤ 255
  owner : 0 ≤ d.owner ∧ d.owner ≤ 255
  wait : 0 ≤ d.wait ∧ d.wait ≤ 255
  asker : 0 ≤ d.asker ∧ d.asker ≤ 255
abbrev cD (d : Dr) : List A := [i8 d.state, i8 d.owner, i8 d.kind, i64u d.mask, bo d.all, i8 d.wait, i8 d.asker, i8 d.d0, i8 d.d1, i8 d.d2, i8 d.d3]
attribute [go_sem] cD
structure SysH (ss : List A) (D : Nat → Dr) : Prop where
  each : ∀ n < 6, ∃ tl, List.drop (2 + n * 11) ss = cD (D n) ++ tl
  ok : ∀ n < 6, (D n).Ok
def sameD (x y : Ln) : Bool := x.d0 == y.d0 && (x.d1 == y.d1 && (x.d2 == y.d2 && x.d3 == y.d3))
def sameH (d : Dr) (y : Ln) : Bool := d.d0 == y.d0 && (d.d1 == y.d1 && (d.d2 == y.d2 && d.d3 == y.d3))
def heldB (d : Dr) (y : Ln) (b : Nat) : Bool := cpyB y.state || decide (d.wait = 0 ∧ d.owner = b ∧ y.state = 10)
def frB (d : Dr) (x : Ln) (L : Nat → Ln) (b : Nat) : Bool := !(heldB d (L b) b) || sameD (L b) x
structure HLo (ws ss : List A) (d : Dr) (H : Heap) : Prop where
  w : H[0]? = some (some ⟨44, ws, true⟩)
  s : H[1]? = some (some ⟨69, ss, true⟩)
  d : H[2]? = some (some ⟨65, cD d, true⟩)
theorem HLo.app {ws ss : List A} {d : Dr} {H : Heap} (h : HLo ws ss d H) (l : Heap) : HLo ws ss d (H ++ l) := ⟨ap_low h.w l, ap_low h.s l, ap_low h.d l⟩
set_option maxHeartbeats 16000000 in
theorem rfresh_in {ws ss : List A} {c h o s y : Int} {net : List Mg} {J : List (List A)} {W : Nat → Nat → Nat → Ln} (I : InR ws ss c h o s y net J W) {d : Dr} (dk : d.Ok) {l : Nat} (hl : l < 256) {a k : Nat} (X : Ln) {KK : List It} {Q : Ex → St → Prop} :
    ∀ (e b : Nat) (H : Heap), b + e = J.length → HLo ws ss d H → H[k]? = some (some ⟨83, cL X, true⟩) → (allN (frB d X (fun i => atL (W i) s y l)) b e = false → ∀ H, UnwK Cx .back KK ⟨[(6, bo false)], H⟩ Q) →
      (allN (frB d X (fun i => atL (W i) s y l)) b e = true → ∀ H, HLo ws ss d H → H[k]? = some (some ⟨83, cL X, true⟩) → UnwK Cx (.out 2) KK ⟨[(36, bo false), (35, i64 c), (34, .ptr 0 10), (33, .ptr 0 10), (32, i64 c), (2, i64 l), (3, .ptr 0 0), (4, .ptr 1 0), (7, .ptr 2 0), (8, i64 a), (9, .ptr k 0), (10, i64 c)], H⟩ Q) →
      RunK Cx (.code (.loop m25_l1) :: KK) ⟨[(2, i64 l), (3, .ptr 0 0), (4, .ptr 1 0), (7, .ptr 2 0), (8, i64 a), (9, .ptr k 0), (10, i64 b)], H⟩ Q := by
  obtain ⟨tw, hw⟩ := I.world.geo
  have w1 := I.world.len
  have s3 := I.sys.len
  have hmany := I.many
  have hk := I.ok
  obtain ⟨c1, c2, h1, h2, o1, o2, s1, s2, y1, y2⟩ := id hk
  have hwt : List.take 585 ws = ws := List.take_of_length_le (by omega)
  have hst : List.take 69 ss = ss := List.take_of_length_le (by omega)
  have hwf := I.world.fz
  have hsf := I.sys.fz
  intro e
  induction e with
  | zero =>
    intro b H hb L hX _ hT
    have lw := L.w
    have hbe : b = J.length := by omega
    subst hbe
    have := hT rfl H L hX
    rw [hmany] at this
    rw [runK_loop]
    simp (disch := omega) only [go_sem, lw, hw, w1, hmany, Int.lt_irrefl, simprocAttr]
    exact this
  | succ e ih =>
    intro b H hb L hX hF hT
    have hbc : (b : Int) < c := by omega
    have hB := I.at (i := b) (by omega) hl
    have ed : frB d X (fun i => atL (W i) s y l) b = (!(heldB d (atL (W b) s y l) b) || sameD (atL (W b) s y l) X) := rfl
    simp only [allN, ed] at hF hT
    generalize atL (W b) s y l = Y at *
    have l0 := L.w
    have l1 := L.s
    have l2 := L.d
    have lw := ap_low L.w
    have ls := ap_low L.s
    have ld := ap_low L.d
    have lk := ap_low hX
    have := fun H' h1 h2 h3 h4 => ih (b + 1) H' (by omega) h1 h2 h3 h4
    have hcy := rcpy_ev Y.state
    rw [runK_loop]
    have yes : (!heldB d Y b || sameD Y X) = true → ∀ T, RunK Cx (.code (.loop m25_l1) :: KK) ⟨[(2, i64 l), (3, .ptr 0 0), (4, .ptr 1 0), (7, .ptr 2 0), (8, i64 a), (9, .ptr k 0), (10, i64 ((b : Int) + 1))], H ++ T⟩ Q := fun q T => by
      rw [q] at hF hT
      simpa only [Int.natCast_add, Int.natCast_one] using this (H ++ T) (L.app T) (lk T) hF hT
    obtain ⟨dk1, dk2⟩ := dk.owner
    cases vcy : cpyB Y.state <;> rw [vcy] at hcy
    · by_cases q1 : d.wait = 0
      case neg =>
        have hh : heldB d Y b = false := by simp [heldB, vcy, q1]
        simp (disch := omega) only [go_sem, l0, l1, l2, hX, lw, ls, ld, lk, hw, w1, s3, hwt, hst, hwf, hsf, hbc, simprocAttr, passK_shut CxP42, QK.use hB, passK_shut CxP43, QK.use hcy]
        rw [loop_norm (l := [2, 3, 4, 7, 8, 9, 10]) rfl]
        simp (disch := omega) only [go_sem, simprocAttr]
        exact yes (by rw [hh]; rfl) _
      by_cases q2 : d.owner = b
      case neg =>
        have hh : heldB d Y b = false := by simp [heldB, vcy, q2]
        simp (disch := omega) only [go_sem, l0, l1, l2, hX, lw, ls, ld, lk, hw, w1, s3, hwt, hst, hwf, hsf, hbc, simprocAttr, passK_shut CxP42, QK.use hB, passK_shut CxP43, QK.use hcy]
        rw [loop_norm (l := [2, 3, 4, 7, 8, 9, 10]) rfl]
        simp (disch := omega) only [go_sem, simprocAttr]
        exact yes (by rw [hh]; rfl) _
      by_cases q3 : Y.state = 10
      case neg =>
        have hh : heldB d Y b = false := by simp [heldB, vcy, q3]
        simp (disch := omega) only [go_sem, l0, l1, l2, hX, lw, ls, ld, lk, hw, w1, s3, hwt, hst, hwf, hsf, hbc, simprocAttr, passK_shut CxP42, QK.use hB, passK_shut CxP43, QK.use hcy]
        rw [loop_norm (l := [2, 3, 4, 7, 8, 9, 10]) rfl]
        simp (disch := omega) only [go_sem, simprocAttr]
        exact yes (by rw [hh]; rfl) _
      have hh : heldB d Y b = true := by simp [heldB, q1, q2, q3]
      cases q : (Y.d0 == X.d0 && (Y.d1 == X.d1 && (Y.d2 == X.d2 && Y.d3 == X.d3)))
      · simp (disch := omega) only [go_sem, l0, l1, l2, hX, lw, ls, ld, lk, hw, w1, s3, hwt, hst, hwf, hsf, hbc, simprocAttr, passK_shut CxP42, QK.use hB, passK_shut CxP43, QK.use hcy]
        simp (disch := omega) only [go_sem, q, simprocAttr]
        exact hF (by rw [hh, show sameD Y X = false from q]; rfl) _
      · simp (disch := omega) only [go_sem, l0, l1, l2, hX, lw, ls, ld, lk, hw, w1, s3, hwt, hst, hwf, hsf, hbc, simprocAttr, passK_shut CxP42, QK.use hB, passK_shut CxP43, QK.use hcy]
        simp (disch := omega) only [go_sem, q, simprocAttr]
        rw [loop_norm (l := [2, 3, 4, 7, 8, 9, 10]) rfl]
        simp (disch := omega) only [go_sem, simprocAttr]
        exact yes (by rw [hh, show sameD Y X = true from q]; rfl) _
    · have hh : heldB d Y b = true := by simp [heldB, vcy]
      cases q : (Y.d0 == X.d0 && (Y.d1 == X.d1 && (Y.d2 == X.d2 && Y.d3 == X.d3)))
      · simp (disch := omega) only [go_sem, l0, l1, l2, hX, lw, ls, ld, lk, hw, w1, s3, hwt, hst, hwf, hsf, hbc, simprocAttr, passK_shut CxP42, QK.use hB, passK_shut CxP43, QK.use hcy]
        simp (disch := omega) only [go_sem, q, simprocAttr]
        exact hF (by rw [hh, show sameD Y X = false from q]; rfl) _
      · simp (disch := omega) only [go_sem, l0, l1, l2, hX, lw, ls, ld, lk, hw, w1, s3, hwt, hst, hwf, hsf, hbc, simprocAttr, passK_shut CxP42, QK.use hB, passK_shut CxP43, QK.use hcy]
        simp (disch := omega) only [go_sem, q, simprocAttr]
        rw [loop_norm (l := [2, 3, 4, 7, 8, 9, 10]) rfl]
        simp (disch := omega) only [go_sem, simprocAttr]
        exact yes (by rw [hh, show sameD Y X = true from q]; rfl) _
def frA (d : Dr) (L : Nat → Ln) (n a : Nat) : Bool := !cpyB (L a).state || (allN (frB d (L a) L) 0 n && !(decide (d.wait = 0 ∧ d.owner = 255) && !sameH d (L a)))
def freshL (d : Dr) (L : Nat → Ln) (n : Nat) : Bool := allN (frA d L n) 0 n
set_option maxHeartbeats 16000000 in
theorem rfresh_out {ws ss : List A} {c h o s y : Int} {net : List Mg} {J : List (List A)} {W : Nat → Nat → Nat → Ln} (I : InR ws ss c h o s y net J W) {d : Dr} (dk : d.Ok) {l : Nat} (hl : l < 256) {KK : List It} {Q : Ex → St → Prop} :
    ∀ (e a : Nat) (H : Heap), a + e = J.length → HLo ws ss d H → (allN (frA d (fun i => atL (W i) s y l) J.length) a e = false → ∀ H, UnwK Cx .back KK ⟨[(6, bo false)], H⟩ Q) →
      (allN (frA d (fun i => atL (W i) s y l) J.length) a e = true → ∀ H, UnwK Cx (.out 0) KK ⟨[(20, bo false), (19, i64 c), (18, .ptr 0 10), (17, .ptr 0 10), (16, i64 c), (2, i64 l), (3, .ptr 0 0), (4, .ptr 1 0), (7, .ptr 2 0), (8, i64 c)], H⟩ Q) →
      RunK Cx (.code (.loop m25_l0) :: KK) ⟨[(2, i64 l), (3, .ptr 0 0), (4, .ptr 1 0), (7, .ptr 2 0), (8, i64 a)], H⟩ Q := by
  obtain ⟨tw, hw⟩ := I.world.geo
  have w1 := I.world.len
  have s3 := I.sys.len
  have hmany := I.many
  have hk := I.ok
  obtain ⟨c1, c2, h1, h2, o1, o2, s1, s2, y1, y2⟩ := id hk
  have hwt : List.take 585 ws = ws := List.take_of_length_le (by omega)
  have hst : List.take 69 ss = ss := List.take_of_length_le (by omega)
  have hwf := I.world.fz
  have hsf := I.sys.fz
  intro e
  induction e with
  | zero =>
    intro a H ha L _ hT
    have lw := L.w
    have hbe : a = J.length := by omega
    subst hbe
    have := hT rfl H
    rw [hmany] at this
    rw [runK_loop]
    simp (disch := omega) only [go_sem, lw, hw, w1, hmany, Int.lt_irrefl, simprocAttr]
    exact this
  | succ e ih =>
    intro a H ha L hF hT
    have hbc : (a : Int) < c := by omega
    have hB := I.at (i := a) (by omega) hl
    have ed : frA d (fun i => atL (W i) s y l) J.length a = (!cpyB (atL (W a) s y l).state || (allN (frB d (atL (W a) s y l) (fun i => atL (W i) s y l)) 0 J.length && !(decide (d.wait = 0 ∧ d.owner = 255) && !sameH d (atL (W a) s y l)))) := rfl
    simp only [allN, ed] at hF hT
    generalize atL (W a) s y l = Y at *
    have l0 := L.w
    have l1 := L.s
    have l2 := L.d
    have lw := ap_low L.w
    have ls := ap_low L.s
    have ld := ap_low L.d
    have hcy := rcpy_ev Y.state
    obtain ⟨dk1, dk2⟩ := dk.owner
    rw [runK_loop]
    cases vcy : cpyB Y.state <;> rw [vcy] at hcy
    · rw [vcy] at hF hT
      simp (disch := omega) only [go_sem, l0, l1, l2, lw, ls, ld, hw, w1, s3, hwt, hst, hwf, hsf, hbc, simprocAttr, passK_shut CxP42, QK.use hB, passK_shut CxP43, QK.use hcy]
      rw [loop_norm (l := [2, 3, 4, 7, 8]) rfl]
      simp (disch := omega) only [go_sem, simprocAttr]
      simpa only [i64, Int.natCast_add, Int.natCast_one] using ih (a + 1) _ (by omega) (L.app _) hF hT
    · rw [vcy] at hF hT
      simp (disch := omega) only [go_sem, l0, l1, l2, lw, ls, ld, hw, w1, s3, hwt, hst, hwf, hsf, hbc, simprocAttr, passK_shut CxP42, QK.use hB, passK_shut CxP43, QK.use hcy]
      rw [loop_norm (l := [2, 3, 4, 7, 8, 9, 10]) rfl]
      simp (disch := omega) only [go_sem, simprocAttr]
      refine rfresh_in I dk hl Y J.length 0 _ (by omega) (L.app _) (ap_get0 _ _ _) (fun h H' => ?_) fun h H' L' hX' => ?_
      · simp (disch := omega) only [go_sem, simprocAttr]
        exact hF (by rw [h]; rfl) _
      · rw [h] at hF hT
        have l0 := L'.w
        have l1 := L'.s
        have l2 := L'.d
        clear lw ls ld
        by_cases q1 : d.wait = 0
        case neg =>
          simp (disch := omega) only [go_sem, l0, l1, l2, hX', hw, w1, s3, simprocAttr]
          rw [loop_norm (l := [2, 3, 4, 7, 8]) rfl]
          simp (disch := omega) only [go_sem, simprocAttr]
          have dd : decide (d.wait = 0 ∧ d.owner = 255) = false := by simp [q1]
          rw [dd] at hF hT
          simpa only [i64, Int.natCast_add, Int.natCast_one] using ih (a + 1) _ (by omega) L' hF hT
        by_cases q2 : d.owner = 255
        case neg =>
          simp (disch := omega) only [go_sem, l0, l1, l2, hX', hw, w1, s3, simprocAttr]
          rw [loop_norm (l := [2, 3, 4, 7, 8]) rfl]
          simp (disch := omega) only [go_sem, simprocAttr]
          have dd : decide (d.wait = 0 ∧ d.owner = 255) = false := by simp [q2]
          rw [dd] at hF hT
          simpa only [i64, Int.natCast_add, Int.natCast_one] using ih (a + 1) _ (by omega) L' hF hT
        have dd : decide (d.wait = 0 ∧ d.owner = 255) = true := by simp [q1, q2]
        rw [dd] at hF hT
        cases q : (d.d0 == Y.d0 && (d.d1 == Y.d1 && (d.d2 == Y.d2 && d.d3 == Y.d3)))
        · simp (disch := omega) only [go_sem, l0, l1, l2, hX', hw, w1, s3, simprocAttr]
          simp (disch := omega) only [go_sem, q, simprocAttr]
          exact hF (by rw [show sameH d Y = false from q]; rfl) _
        · simp (disch := omega) only [go_sem, l0, l1, l2, hX', hw, w1, s3, simprocAttr]
          simp (disch := omega) only [go_sem, q, simprocAttr]
          rw [loop_norm (l := [2, 3, 4, 7, 8]) rfl]
          simp (disch := omega) only [go_sem, simprocAttr]
          rw [show sameH d Y = true from q] at hF hT
          simpa only [i64, Int.natCast_add, Int.natCast_one] using ih (a + 1) _ (by omega) L' hF hT
set_option maxHeartbeats 8000000 in
theorem rfresh_ev {ws ss : List A} {c h o s y : Int} {net : List Mg} {J : List (List A)} {W : Nat → Nat → Nat → Ln} (I : InR ws ss c h o s y net J W) {D : Nat → Dr} (HD : SysH ss D) {l : Nat} (hl : l < 6) : EvQ Cx 25 [.agg ws, .agg ss, i64 l] (bo (freshL (D l) (fun i => atL (W i) s y l) J.length)) := by
  have w1 := I.world.len
  have s1 := I.sys.len
  have w2 := I.world.one
  have s2 := I.sys.one
  obtain ⟨td, hd⟩ := HD.each l hl
  refine evQ_of CxB25 rfl (by simp [fn25]) ?_
  simp (disch := omega) only [go_sem, w1, w2, s1, s2, hd, simprocAttr]
  rw [loop_norm (l := [2, 3, 4, 7, 8]) rfl]
  simp (disch := omega) only [go_sem, simprocAttr]
  refine rfresh_out I (HD.ok l hl) (by omega) J.length 0 _ (by omega) ⟨rfl, rfl, rfl⟩ (fun h H => ?_) fun h H => ?_
  · have e : freshL (D l) (fun i => atL (W i) s y l) J.length = false := h
    rw [e]
    simp (disch := omega) only [go_sem, simprocAttr]
  · have e : freshL (D l) (fun i => atL (W i) s y l) J.length = true := h
    rw [e]
    simp (disch := omega) only [go_sem, simprocAttr]
end Go.Proofs.YtnhknhniemfnjaaGreatDoor.Ev
namespace Go.Proofs.YtnhknhniemfnjaaGreatDoor.Ev
open Go Go.RowKit
set_option maxRecDepth 100000
structure Dr.Right (d : Dr) (n : Nat) : Prop where
  view : vwOk d.kind d.mask d.all n = true
  state : d.state ≤ 3
  wait : d.wait ≤ 3
  asker : d.asker < n
  owner : d.owner = 255 ∨ d.owner < n
def toldD (d : Dr) (n i : Nat) : Bool := (toldV d.kind d.mask d.all n).testBit i
def rnB (d : Dr) (L : Nat → Ln) (n i : Nat) : Bool :=
  !(decide (d.owner = i) && !ownB (L i).state && !decide ((L i).state = 10)) &&
  (!(decide (d.state = 0) && cpyB (L i).state || decide (d.state = 2) && cpyB (L i).state && !decide (d.owner = i) || ownB (L i).state && !decide (d.owner = i)) &&
   !(cpyB (L i).state && !decide (d.owner = i) && !toldD d n i))
def rnD (d : Dr) : Bool := !decide (d.state ≤ 1 ∧ d.owner ≠ 255 ∨ 2 ≤ d.state ∧ d.owner = 255)
def notedL (d : Dr) (L : Nat → Ln) (n : Nat) : Bool := decide (d.wait ≠ 0) || (rnD d && allN (rnB d L n) 0 n)
set_option maxHeartbeats 16000000 in
theorem rnoted_loop {ws ss : List A} {c h o s y : Int} {net : List Mg} {J : List (List A)} {W : Nat → Nat → Nat → Ln} (I : InR ws ss c h o s y net J W) {d : Dr} (dk : d.Ok) (dr : d.Right J.length) {l : Nat} (hl : l < 256) {KK : List It} {Q : Ex → St → Prop} :
    ∀ (e a : Nat) (H : Heap), a + e = J.length → HLo ws ss d H → (allN (rnB d (fun i => atL (W i) s y l) J.length) a e = false → ∀ H, UnwK Cx .back KK ⟨[(6, bo false)], H⟩ Q) →
      (allN (rnB d (fun i => atL (W i) s y l) J.length) a e = true → ∀ H, UnwK Cx (.out 0) KK ⟨[(45, bo false), (44, i64 c), (43, .ptr 0 10), (42, .ptr 0 10), (41, i64 c), (2, i64 l), (3, .ptr 0 0), (4, .ptr 1 0), (7, .ptr 2 0), (8, i64 c)], H⟩ Q) →
      RunK Cx (.code (.loop m26_l0) :: KK) ⟨[(2, i64 l), (3, .ptr 0 0), (4, .ptr 1 0), (7, .ptr 2 0), (8, i64 a)], H⟩ Q := by
  obtain ⟨tw, hw⟩ := I.world.geo
  have w1 := I.world.len
  have s3 := I.sys.len
  have hmany := I.many
  have hk := I.ok
  obtain ⟨c1, c2, h1, h2, o1, o2, s1, s2, y1, y2⟩ := id hk
  have hwt : List.take 585 ws = ws := List.take_of_length_le (by omega)
  have hst : List.take 69 ss = ss := List.take_of_length_le (by omega)
  have hwf := I.world.fz
  have hsf := I.sys.fz
  intro e
  induction e with
  | zero =>
    intro a H ha L _ hT
    have lw := L.w
    have hbe : a = J.length := by omega
    subst hbe
    have := hT rfl H
    rw [hmany] at this
    rw [runK_loop]
    simp (disch := omega) only [go_sem, lw, hw, w1, hmany, Int.lt_irrefl, simprocAttr]
    exact this
  | succ e ih =>
    intro a H ha L hF hT
    have hbc : (a : Int) < c := by omega
    have hB := I.at (i := a) (by omega) hl
    have ed : rnB d (fun i => atL (W i) s y l) J.length a = (!(decide (d.owner = a) && !ownB (atL (W a) s y l).state && !decide ((atL (W a) s y l).state = 10)) && (!(decide (d.state = 0) && cpyB (atL (W a) s y l).state || decide (d.state = 2) && cpyB (atL (W a) s y l).state && !decide (d.owner = a) || ownB (atL (W a) s y l).state && !decide (d.owner = a)) && !(cpyB (atL (W a) s y l).state && !decide (d.owner = a) && !toldD d J.length a))) := rfl
    simp only [allN, ed] at hF hT
    generalize atL (W a) s y l = Y at *
    have l0 := L.w
    have l1 := L.s
    have l2 := L.d
    have hcy := rcpy_ev Y.state
    have how := rown_ev Y.state
    have hto := rtold_ev (k := d.kind) (m := d.mask) (a := d.all) (n := J.length) (by omega) (by omega) dr.view
    rw [← hmany] at hto
    have hha := has_ev (m := toldV d.kind d.mask d.all J.length) (b := a) (by omega)
    rw [show (toldV d.kind d.mask d.all J.length).testBit a = toldD d J.length a from rfl] at hha
    obtain ⟨dk1, dk2⟩ := dk.owner
    have := fun h1 h2 => ih (a + 1) H (by omega) L h1 h2
    clear ih ed
    have no : (!(decide (d.owner = a) && !ownB Y.state && !decide (Y.state = 10)) && (!(decide (d.state = 0) && cpyB Y.state || decide (d.state = 2) && cpyB Y.state && !decide (d.owner = a) || ownB Y.state && !decide (d.owner = a)) && !(cpyB Y.state && !decide (d.owner = a) && !toldD d J.length a))) = false → ∀ H, UnwK Cx .back KK ⟨[(6, bo false)], H⟩ Q := fun h => hF (by rw [h]; rfl)
    have yes : (!(decide (d.owner = a) && !ownB Y.state && !decide (Y.state = 10)) && (!(decide (d.state = 0) && cpyB Y.state || decide (d.state = 2) && cpyB Y.state && !decide (d.owner = a) || ownB Y.state && !decide (d.owner = a)) && !(cpyB Y.state && !decide (d.owner = a) && !toldD d J.length a))) = true → RunK Cx (.code (.loop m26_l0) :: KK) ⟨[(2, i64 l), (3, .ptr 0 0), (4, .ptr 1 0), (7, .ptr 2 0), (8, i64 ((a : Int) + 1))], H⟩ Q := fun h => by
      rw [h] at hF hT
      simpa only [Int.natCast_add, Int.natCast_one] using this hF hT
    clear this hF hT
    rw [runK_loop]
    cases vcy : cpyB Y.state <;> rw [vcy] at hcy no yes <;> cases vow : ownB Y.state <;> rw [vow] at how no yes <;> cases vto : toldD d J.length a <;> rw [vto] at hha no yes
    all_goals
      by_cases q1 : d.owner = a
      all_goals
        by_cases q2 : Y.state = 10
        all_goals
          by_cases q3 : d.state = 0
          · simp (disch := omega) only [go_sem, l0, l1, l2, hw, w1, s3, hwt, hst, hwf, hsf, hbc, simprocAttr, passK_shut CxP42, QK.use hB, passK_shut CxP43, QK.use hcy, passK_shut CxP44, QK.use how, passK_shut CxP46, QK.use hto, passK_shut CxP45, QK.use hha]
            first
              | exact no (by simp [q1, q2, q3]) _
              | (rw [loop_norm (l := [2, 3, 4, 7, 8]) rfl]
                 simp (disch := omega) only [go_sem, simprocAttr]
                 exact yes (by simp [q1, q2, q3]))
          by_cases q4 : d.state = 2
          · simp (disch := omega) only [go_sem, l0, l1, l2, hw, w1, s3, hwt, hst, hwf, hsf, hbc, simprocAttr, passK_shut CxP42, QK.use hB, passK_shut CxP43, QK.use hcy, passK_shut CxP44, QK.use how, passK_shut CxP46, QK.use hto, passK_shut CxP45, QK.use hha]
            first
              | exact no (by simp [q1, q2, q3, q4]) _
              | (rw [loop_norm (l := [2, 3, 4, 7, 8]) rfl]
                 simp (disch := omega) only [go_sem, simprocAttr]
                 exact yes (by simp [q1, q2, q3, q4]))
          · simp (disch := omega) only [go_sem, l0, l1, l2, hw, w1, s3, hwt, hst, hwf, hsf, hbc, simprocAttr, passK_shut CxP42, QK.use hB, passK_shut CxP43, QK.use hcy, passK_shut CxP44, QK.use how, passK_shut CxP46, QK.use hto, passK_shut CxP45, QK.use hha]
            first
              | exact no (by simp [q1, q2, q3, q4]) _
              | (rw [loop_norm (l := [2, 3, 4, 7, 8]) rfl]
                 simp (disch := omega) only [go_sem, simprocAttr]
                 exact yes (by simp [q1, q2, q3, q4]))
set_option maxHeartbeats 8000000 in
theorem rnoted_ev {ws ss : List A} {c h o s y : Int} {net : List Mg} {J : List (List A)} {W : Nat → Nat → Nat → Ln} (I : InR ws ss c h o s y net J W) {D : Nat → Dr} (HD : SysH ss D) {l : Nat} (hl : l < 6) (dr : (D l).Right J.length) : EvQ Cx 26 [.agg ws, .agg ss, i64 l] (bo (notedL (D l) (fun i => atL (W i) s y l) J.length)) := by
  have w1 := I.world.len
  have s1 := I.sys.len
  have w2 := I.world.one
  have s2 := I.sys.one
  obtain ⟨td, hd⟩ := HD.each l hl
  have dk := HD.ok l hl
  obtain ⟨k1, k2⟩ := dk.state
  refine evQ_of CxB26 rfl (by simp [fn26]) ?_
  unfold notedL rnD
  by_cases q0 : (D l).wait = 0
  case neg =>
    rw [decide_eq_true q0, Bool.true_or]
    simp (disch := omega) only [go_sem, w1, w2, s1, s2, hd, simprocAttr]
  rw [show decide ((D l).wait ≠ 0) = false by simp [q0], Bool.false_or]
  by_cases q1 : (D l).owner = 255
  · by_cases q2 : 2 ≤ (D l).state
    · have z1 : ((D l).state == 0) = false := beq_no (by omega)
      have z2 : ((D l).state == 1) = false := beq_no (by omega)
      rw [show (!decide ((D l).state ≤ 1 ∧ (D l).owner ≠ 255 ∨ 2 ≤ (D l).state ∧ (D l).owner = 255)) = false by simp [q1, q2], Bool.false_and]
      simp (disch := omega) only [go_sem, w1, w2, s1, s2, hd, simprocAttr]
    · rw [show (!decide ((D l).state ≤ 1 ∧ (D l).owner ≠ 255 ∨ 2 ≤ (D l).state ∧ (D l).owner = 255)) = true by simp [q1]; omega, Bool.true_and]
      rcases (show (D l).state = 0 ∨ (D l).state = 1 by omega) with q3 | q3
      all_goals
        simp (disch := omega) only [go_sem, w1, w2, s1, s2, hd, simprocAttr]
        rw [loop_norm (l := [2, 3, 4, 7, 8]) rfl]
        simp (disch := omega) only [go_sem, simprocAttr]
        refine rnoted_loop I dk dr (by omega) J.length 0 _ (by omega) ⟨rfl, rfl, rfl⟩ (fun h H => ?_) fun h H => ?_
        all_goals
          rw [h]
          simp (disch := omega) only [go_sem, simprocAttr]
  · by_cases q2 : 2 ≤ (D l).state
    · have z1 : ((D l).state == 0) = false := beq_no (by omega)
      have z2 : ((D l).state == 1) = false := beq_no (by omega)
      rw [show (!decide ((D l).state ≤ 1 ∧ (D l).owner ≠ 255 ∨ 2 ≤ (D l).state ∧ (D l).owner = 255)) = true by simp [q1]; omega, Bool.true_and]
      simp (disch := omega) only [go_sem, w1, w2, s1, s2, hd, simprocAttr]
      rw [loop_norm (l := [2, 3, 4, 7, 8]) rfl]
      simp (disch := omega) only [go_sem, simprocAttr]
      refine rnoted_loop I dk dr (by omega) J.length 0 _ (by omega) ⟨rfl, rfl, rfl⟩ (fun h H => ?_) fun h H => ?_
      all_goals
        rw [h]
        simp (disch := omega) only [go_sem, simprocAttr]
    · rw [show (!decide ((D l).state ≤ 1 ∧ (D l).owner ≠ 255 ∨ 2 ≤ (D l).state ∧ (D l).owner = 255)) = false by simp [q1]; omega, Bool.false_and]
      rcases (show (D l).state = 0 ∨ (D l).state = 1 by omega) with q3 | q3
      all_goals
        simp (disch := omega) only [go_sem, w1, w2, s1, s2, hd, simprocAttr]
end Go.Proofs.YtnhknhniemfnjaaGreatDoor.Ev
namespace Go.Proofs.YtnhknhniemfnjaaGreatDoor.Ev
open Go Go.RowKit
set_option maxRecDepth 100000
def ackB (n c : Int) (m : Mg) : Bool := decide (m.line = n) && (decide ((m.kind = 10 ∨ m.kind = 11) ∧ m.dst = c) || decide (m.kind = 7 ∧ m.asker = c))
def ackF (n c a : Int) (l : List Mg) : Int := l.foldl (fun a m => if ackB n c m then IntKind.i64.wrap (a + m.acks) else a) a
theorem ackF_snoc (n c a : Int) (l : List Mg) (m : Mg) : ackF n c a (l ++ [m]) = if ackB n c m then IntKind.i64.wrap (ackF n c a l + m.acks) else ackF n c a l := by
  unfold ackF
  rw [List.foldl_append]
  rfl
set_option maxHeartbeats 16000000 in
theorem racks_loop {ws ss : List A} {net : List Mg} (hS : SysR ss net) (hok : ∀ m ∈ net, m.Ok) (hn : net.length ≤ 4611686018427387904) {d : Dr} {n : Nat} {c a0 : Int} {v8 v9 v10 v11 v13 : A} {kx : Nat} {bx : Blk} {KK : List It} {Q : Ex → St → Prop}
    (hT : ∀ H e, HLo ws ss d H → H[kx]? = some (some bx) → UnwK Cx (.out 2) KK ⟨[(59, bo false), (58, i64 net.length), (57, .sl net.length (encN net)), (56, .ptr 1 68), (55, i64 net.length), (2, i64 n), (3, .ptr 0 0), (4, .ptr 1 0), (7, .ptr 2 0), (8, v8), (9, v9), (10, v10), (11, v11), (12, i8 c), (13, v13), (14, i64 (ackF n c a0 net)), (15, i64 e)], H⟩ Q) :
    ∀ (suf pre : List Mg) (H : Heap), net = pre ++ suf → HLo ws ss d H → H[kx]? = some (some bx) → RunK Cx (.code (.loop m27_l1) :: KK) ⟨[(2, i64 n), (3, .ptr 0 0), (4, .ptr 1 0), (7, .ptr 2 0), (8, v8), (9, v9), (10, v10), (11, v11), (12, i8 c), (13, v13), (14, i64 (ackF n c a0 pre)), (15, i64 pre.length)], H⟩ Q := by
  intro suf
  have hss := hS.len
  have hnet := hS.net
  induction suf with
  | nil =>
    intro pre H he L hx
    have h0 := L.s
    rw [List.append_nil] at he
    subst he
    rw [runK_loop]
    simp (disch := omega) only [go_sem, h0, hss, hnet, Int.lt_irrefl, Nat.le_refl, simprocAttr]
    exact hT _ _ L hx
  | cons m suf ih =>
    intro pre H he L hx
    have h0 := L.s
    have l0 := ap_low h0
    have hm : m ∈ net := by rw [he]; simp
    obtain ⟨k0, k1⟩ := (hok m hm).line
    obtain ⟨k2, k3⟩ := (hok m hm).acks
    have hlen : net.length = pre.length + (suf.length + 1) := by rw [he]; simp
    have hlt : pre.length < net.length := by omega
    have hdd : List.drop (pre.length * 11) (encN net) = cM m ++ encN suf := by rw [he]; exact encN_drop pre (m :: suf)
    have hll := encN_len net
    have := fun H' h1 h2 => ih (pre ++ [m]) H' (by rw [he]; simp) h1 h2
    simp only [List.length_append, List.length_cons, List.length_nil, Nat.zero_add, ackF_snoc] at this
    have no : ackB n c m = false → ∀ T, RunK Cx (.code (.loop m27_l1) :: KK) ⟨[(2, i64 n), (3, .ptr 0 0), (4, .ptr 1 0), (7, .ptr 2 0), (8, v8), (9, v9), (10, v10), (11, v11), (12, i8 c), (13, v13), (14, i64 (ackF n c a0 pre)), (15, i64 ((pre.length : Int) + 1))], H ++ T⟩ Q := fun e T => by
      have := this _ (L.app T) (ap_low hx T)
      rw [e] at this
      simpa only [Bool.false_eq_true, if_false, Int.natCast_add, Int.natCast_one] using this
    have yes : ackB n c m = true → ∀ T, RunK Cx (.code (.loop m27_l1) :: KK) ⟨[(2, i64 n), (3, .ptr 0 0), (4, .ptr 1 0), (7, .ptr 2 0), (8, v8), (9, v9), (10, v10), (11, v11), (12, i8 c), (13, v13), (14, i64 (IntKind.i64.wrap (ackF n c a0 pre + m.acks))), (15, i64 ((pre.length : Int) + 1))], H ++ T⟩ Q := fun e T => by
      have := this _ (L.app T) (ap_low hx T)
      rw [e] at this
      simpa only [if_true, Int.natCast_add, Int.natCast_one] using this
    clear this ih
    generalize ackF n c a0 pre = ct at *
    rw [runK_loop]
    by_cases q1 : m.line = n
    case neg =>
      have e : ackB n c m = false := by simp [ackB, q1]
      simp (disch := omega) only [go_sem, h0, l0, hss, hnet, hdd, hlt, hll, List.length_append, Nat.le_refl, simprocAttr]
      rw [loop_norm (l := [2, 3, 4, 7, 8, 9, 10, 11, 12, 13, 14, 15]) rfl]
      simp (disch := omega) only [go_sem, simprocAttr]
      exact no e _
    by_cases q2 : m.kind = 10
    · have z1 : (m.kind == 7) = false := beq_no (by omega)
      by_cases q3 : m.dst = c
      · have e : ackB n c m = true := by simp [ackB, q1, q2, q3]
        simp (disch := omega) only [go_sem, h0, l0, hss, hnet, hdd, hlt, hll, List.length_append, Nat.le_refl, simprocAttr]
        rw [loop_norm (l := [2, 3, 4, 7, 8, 9, 10, 11, 12, 13, 14, 15]) rfl]
        simp (disch := omega) only [go_sem, simprocAttr]
        exact yes e _
      · have e : ackB n c m = false := by simp [ackB, q2, q3]
        simp (disch := omega) only [go_sem, h0, l0, hss, hnet, hdd, hlt, hll, List.length_append, Nat.le_refl, simprocAttr]
        rw [loop_norm (l := [2, 3, 4, 7, 8, 9, 10, 11, 12, 13, 14, 15]) rfl]
        simp (disch := omega) only [go_sem, simprocAttr]
        exact no e _
    have y1 : (m.kind == 10) = false := beq_no q2
    by_cases q4 : m.kind = 11
    · have z1 : (m.kind == 7) = false := beq_no (by omega)
      by_cases q3 : m.dst = c
      · have e : ackB n c m = true := by simp [ackB, q1, q4, q3]
        simp (disch := omega) only [go_sem, h0, l0, hss, hnet, hdd, hlt, hll, List.length_append, Nat.le_refl, simprocAttr]
        rw [loop_norm (l := [2, 3, 4, 7, 8, 9, 10, 11, 12, 13, 14, 15]) rfl]
        simp (disch := omega) only [go_sem, simprocAttr]
        exact yes e _
      · have e : ackB n c m = false := by simp [ackB, q4, q3]
        simp (disch := omega) only [go_sem, h0, l0, hss, hnet, hdd, hlt, hll, List.length_append, Nat.le_refl, simprocAttr]
        rw [loop_norm (l := [2, 3, 4, 7, 8, 9, 10, 11, 12, 13, 14, 15]) rfl]
        simp (disch := omega) only [go_sem, simprocAttr]
        exact no e _
    have y2 : (m.kind == 11) = false := beq_no q4
    by_cases q5 : m.kind = 7
    · by_cases q3 : m.asker = c
      · have e : ackB n c m = true := by simp [ackB, q1, q5, q3]
        simp (disch := omega) only [go_sem, h0, l0, hss, hnet, hdd, hlt, hll, List.length_append, Nat.le_refl, simprocAttr]
        rw [loop_norm (l := [2, 3, 4, 7, 8, 9, 10, 11, 12, 13, 14, 15]) rfl]
        simp (disch := omega) only [go_sem, simprocAttr]
        exact yes e _
      · have e : ackB n c m = false := by simp [ackB, q5, q3]
        simp (disch := omega) only [go_sem, h0, l0, hss, hnet, hdd, hlt, hll, List.length_append, Nat.le_refl, simprocAttr]
        rw [loop_norm (l := [2, 3, 4, 7, 8, 9, 10, 11, 12, 13, 14, 15]) rfl]
        simp (disch := omega) only [go_sem, simprocAttr]
        exact no e _
    · have e : ackB n c m = false := by simp [ackB, q2, q4, q5]
      simp (disch := omega) only [go_sem, h0, l0, hss, hnet, hdd, hlt, hll, List.length_append, Nat.le_refl, simprocAttr]
      rw [loop_norm (l := [2, 3, 4, 7, 8, 9, 10, 11, 12, 13, 14, 15]) rfl]
      simp (disch := omega) only [go_sem, simprocAttr]
      exact no e _
end Go.Proofs.YtnhknhniemfnjaaGreatDoor.Ev
namespace Go.Proofs.YtnhknhniemfnjaaGreatDoor.Ev
open Go Go.RowKit
set_option maxRecDepth 100000
theorem cntM_or (p q : Mg → Bool) (h : ∀ m, p m = true → q m = false) : ∀ l, cntM p l + cntM q l = cntM (fun m => p m || q m) l
  | [] => rfl
  | m :: l => by
    have := cntM_or p q h l
    have hm := h m
    simp only [cntM]
    by_cases e : p m = true
    · simp only [e, hm e, Bool.true_or, Bool.false_eq_true, if_false, if_true]
      omega
    · rw [Bool.not_eq_true] at e
      simp only [e, Bool.false_or, Bool.false_eq_true, if_false, Nat.add_zero]
      omega
theorem cntM_two (p q : Mg → Bool) (h : ∀ m, p m = true → q m = false) (l : List Mg) : cntM p l + cntM q l ≤ l.length := by
  rw [cntM_or p q h]
  exact cntM_le _ _
def ct (net : List Mg) (n k b c : Int) : Nat := cntM (selB n k b c) net
theorem ct_two {net : List Mg} {n k k' b b' c c' : Int} (h : k ≠ k') : ct net n k b c + ct net n k' b' c' ≤ net.length := cntM_two _ _ (fun m e => by
  simp only [selB, Bool.and_eq_true, decide_eq_true_eq] at e
  simp only [selB, Bool.and_eq_false_iff, decide_eq_false_iff_not]
  exact .inl fun e' => h (e.1.2.symm.trans e'.2)) net
def busyB (d : Dr) (net : List Mg) (n : Int) (i : Nat) : Bool := decide (d.wait % 2 = 1) && decide (d.asker = i) && decide ((ct net n 4 1 i : Int) = 0)
def rpB (d : Dr) (L : Nat → Ln) (net : List Mg) (n : Int) (i : Nat) : Bool :=
  decide (ackF n i (IntKind.i64.wrap (L i).need) net = ct net n 8 3 i + ct net n 12 2 i) &&
  (decide ((ct net n 3 1 i + ct net n 9 2 i : Int) = b2i (decide ((L i).state = 10 ∨ (L i).state = 11))) &&
   (decide ((ct net n 1 1 i : Int) = b2i (decide ((L i).state = 5) && !busyB d net n i)) &&
    (decide ((ct net n 2 1 i : Int) = b2i (decide ((L i).state = 6 ∨ (L i).state = 7 ∨ (L i).state = 8) && !busyB d net n i)) &&
     !(decide ((L i).state = 9) && !busyB d net n i))))
def hasN (L : Nat → Ln) : Nat → Int
  | 0 => 0
  | i + 1 => hasN L i + b2i (L i).has
theorem b2i_le (b : Bool) : 0 ≤ b2i b ∧ b2i b ≤ 1 := by cases b <;> simp [b2i]
theorem hasN_le (L : Nat → Ln) : ∀ i, 0 ≤ hasN L i ∧ hasN L i ≤ i
  | 0 => ⟨Int.le_refl _, Int.le_refl _⟩
  | i + 1 => by
    have := hasN_le L i
    have := b2i_le (L i).has
    simp only [hasN]
    omega
set_option maxHeartbeats 16000000 in
theorem rpaired_out {ws ss : List A} {c h o s y : Int} {net : List Mg} {J : List (List A)} {W : Nat → Nat → Nat → Ln} (I : InR ws ss c h o s y net J W) (hok : ∀ m ∈ net, m.Ok) (hn : net.length ≤ 4611686018427387904) {d : Dr} (dk : d.Ok) {l : Nat} (hl : l < 256) {v9 : A} {KK : List It} {Q : Ex → St → Prop} :
    ∀ (e a : Nat) (H : Heap), a + e = J.length → HLo ws ss d H → (allN (rpB d (fun i => atL (W i) s y l) net l) a e = false → ∀ H, UnwK Cx .back KK ⟨[(6, bo false)], H⟩ Q) →
      (allN (rpB d (fun i => atL (W i) s y l) net l) a e = true → ∀ H, HLo ws ss d H → UnwK Cx (.out 0) KK ⟨[(37, bo false), (36, i64 c), (35, .ptr 0 10), (34, .ptr 0 10), (33, i64 c), (2, i64 l), (3, .ptr 0 0), (4, .ptr 1 0), (7, .ptr 2 0), (8, bo (decide (d.wait % 2 = 1))), (9, v9), (10, i64 (hasN (fun i => atL (W i) s y l) J.length)), (11, i64 c)], H⟩ Q) →
      RunK Cx (.code (.loop m27_l0) :: KK) ⟨[(2, i64 l), (3, .ptr 0 0), (4, .ptr 1 0), (7, .ptr 2 0), (8, bo (decide (d.wait % 2 = 1))), (9, v9), (10, i64 (hasN (fun i => atL (W i) s y l) a)), (11, i64 a)], H⟩ Q := by
  obtain ⟨tw, hw⟩ := I.world.geo
  have w1 := I.world.len
  have s3 := I.sys.len
  have hmany := I.many
  have hk := I.ok
  obtain ⟨c1, c2, h1, h2, o1, o2, s1, s2, y1, y2⟩ := id hk
  have hwt : List.take 585 ws = ws := List.take_of_length_le (by omega)
  have hst : List.take 69 ss = ss := List.take_of_length_le (by omega)
  have hwf := I.world.fz
  have hsf := I.sys.fz
  have hsh := I.sys.shut
  have hso := I.sys.one
  intro e
  induction e with
  | zero =>
    intro a H ha L _ hT
    have lw := L.w
    have hbe : a = J.length := by omega
    subst hbe
    have := hT rfl H L
    rw [hmany] at this
    rw [runK_loop]
    simp (disch := omega) only [go_sem, lw, hw, w1, hmany, Int.lt_irrefl, simprocAttr]
    exact this
  | succ e ih =>
    intro a H ha L hF hT
    have hbc : (a : Int) < c := by omega
    have hB := I.at (i := a) (by omega) hl
    have hone := one_ev (atL (W a) s y l).has
    have hh1 : 0 ≤ hasN (fun i => atL (W i) s y l) a ∧ hasN (fun i => atL (W i) s y l) a ≤ a := hasN_le _ a
    have hh2 : 0 ≤ b2i (atL (W a) s y l).has ∧ b2i (atL (W a) s y l).has ≤ 1 := b2i_le _
    have hh3 : hasN (fun i => atL (W i) s y l) (a + 1) = hasN (fun i => atL (W i) s y l) a + b2i (atL (W a) s y l).has := rfl
    have ed : rpB d (fun i => atL (W i) s y l) net l a = (decide (ackF l a (IntKind.i64.wrap (atL (W a) s y l).need) net = ct net l 8 3 a + ct net l 12 2 a) &&
  (decide ((ct net l 3 1 a + ct net l 9 2 a : Int) = b2i (decide ((atL (W a) s y l).state = 10 ∨ (atL (W a) s y l).state = 11))) &&
   (decide ((ct net l 1 1 a : Int) = b2i (decide ((atL (W a) s y l).state = 5) && !busyB d net l a)) &&
    (decide ((ct net l 2 1 a : Int) = b2i (decide ((atL (W a) s y l).state = 6 ∨ (atL (W a) s y l).state = 7 ∨ (atL (W a) s y l).state = 8) && !busyB d net l a)) &&
     !(decide ((atL (W a) s y l).state = 9) && !busyB d net l a))))) := rfl
    simp only [allN, ed] at hF hT
    have hnx := fun H' L' h1 h2 => ih (a + 1) H' (by omega) L' h1 h2
    rw [hh3] at hnx
    clear ed hh3 ih
    generalize hasN (fun i => atL (W i) s y l) a = hv at *
    generalize atL (W a) s y l = Y at *
    generalize b2i Y.has = hb at *
    obtain ⟨hh4, hh5⟩ := hh1
    obtain ⟨hh6, hh7⟩ := hh2
    have l0 := L.w
    have l1 := L.s
    have l2 := L.d
    have lw := ap_low L.w
    have ls := ap_low L.s
    have ld := ap_low L.d
    obtain ⟨dk1, dk2⟩ := dk.asker
    rw [runK_loop]
    simp (disch := omega) only [go_sem, l0, l1, l2, lw, ls, ld, hw, w1, s3, hwt, hst, hwf, hsf, hbc, simprocAttr, passK_shut CxP42, QK.use hB, passK_shut CxP47, QK.use hone]
    rw [loop_norm (l := [2, 3, 4, 7, 8, 9, 10, 11, 12, 13, 14, 15]) rfl]
    simp (disch := omega) only [go_sem, simprocAttr]
    refine racks_loop I.sys hok hn (d := d) (c := a) (a0 := IntKind.i64.wrap Y.need) (kx := H.length) (fun H' e' L' hX'' => ?_) net [] _ rfl (L.app _) (ap_get0 _ _ _)
    have hX' := hX''
    have g0 := L'.w
    have g1 := L'.s
    have g2 := L'.d
    have t1 := ct_two (net := net) (n := l) (k := 8) (k' := 12) (b := 3) (b' := 2) (c := a) (c' := a) (by omega)
    have t2 := ct_two (net := net) (n := l) (k := 3) (k' := 9) (b := 1) (b' := 2) (c := a) (c' := a) (by omega)
    have c8 : EvQ Cx 48 [.agg ss, i64 l, i8 8, i64 3, i8 a] (i64 (ct net l 8 3 a)) := count_ev I.sys hok hn (by omega)
    have c12 : EvQ Cx 48 [.agg ss, i64 l, i8 12, i64 2, i8 a] (i64 (ct net l 12 2 a)) := count_ev I.sys hok hn (by omega)
    have c4 : EvQ Cx 48 [.agg ss, i64 l, i8 4, i64 1, i8 a] (i64 (ct net l 4 1 a)) := count_ev I.sys hok hn (by omega)
    have c3 : EvQ Cx 48 [.agg ss, i64 l, i8 3, i64 1, i8 a] (i64 (ct net l 3 1 a)) := count_ev I.sys hok hn (by omega)
    have c9 : EvQ Cx 48 [.agg ss, i64 l, i8 9, i64 2, i8 a] (i64 (ct net l 9 2 a)) := count_ev I.sys hok hn (by omega)
    have c1 : EvQ Cx 48 [.agg ss, i64 l, i8 1, i64 1, i8 a] (i64 (ct net l 1 1 a)) := count_ev I.sys hok hn (by omega)
    have c2 : EvQ Cx 48 [.agg ss, i64 l, i8 2, i64 1, i8 a] (i64 (ct net l 2 1 a)) := count_ev I.sys hok hn (by omega)
    have ob := one_ev true
    have oc := one_ev false
    rw [show b2i true = 1 from rfl] at ob
    rw [show b2i false = 0 from rfl] at oc
    have eb : busyB d net l a = (decide (d.wait % 2 = 1) && decide (d.asker = a) && decide ((ct net l 4 1 a : Int) = 0)) := rfl
    rw [eb] at hF hT
    have hnx := hnx H' L'
    clear eb hB l0 l1 l2 lw ls ld L hone
    generalize decide (d.wait % 2 = 1) = wt at *
    generalize ackF l a (IntKind.i64.wrap Y.need) net = ak at *
    generalize ct net l 8 3 a = n8 at *
    generalize ct net l 12 2 a = n12 at *
    generalize ct net l 4 1 a = n4 at *
    generalize ct net l 3 1 a = n3 at *
    generalize ct net l 9 2 a = n9 at *
    generalize ct net l 1 1 a = n1 at *
    generalize ct net l 2 1 a = n2 at *
    by_cases qa : ak = (n8 : Int) + n12
    case neg =>
      simp (disch := omega) only [go_sem, g0, g1, g2, hX', w1, s3, hst, hsf, hsh, hso, simprocAttr, passK_shut CxP48, QK.use c8, QK.use c12, QK.use c4, QK.use c3, QK.use c9, QK.use c1, QK.use c2, passK_shut CxP47, QK.use ob, QK.use oc]
      exact hF (by simp [qa]) _
    rw [decide_eq_true qa, Bool.true_and] at hF hT
    generalize hbz : (wt && decide (d.asker = a) && decide ((n4 : Int) = 0)) = bz at hF hT
    generalize e1 : b2i (decide (Y.state = 10 ∨ Y.state = 11)) = v1 at hF hT
    generalize e2 : b2i (decide (Y.state = 5) && !bz) = v2 at hF hT
    generalize e3 : b2i (decide (Y.state = 6 ∨ Y.state = 7 ∨ Y.state = 8) && !bz) = v3 at hF hT
    generalize e4 : (decide (Y.state = 9) && !bz) = v4 at hF hT
    have no : (decide ((n3 + n9 : Int) = v1) && (decide ((n1 : Int) = v2) && (decide ((n2 : Int) = v3) && !v4))) = false → ∀ H, UnwK Cx .back KK ⟨[(6, bo false)], H⟩ Q := fun h => hF (by rw [h]; rfl)
    have yes : (decide ((n3 + n9 : Int) = v1) && (decide ((n1 : Int) = v2) && (decide ((n2 : Int) = v3) && !v4))) = true → RunK Cx (.code (.loop m27_l0) :: KK) ⟨[(2, i64 l), (3, .ptr 0 0), (4, .ptr 1 0), (7, .ptr 2 0), (8, bo wt), (9, v9), (10, i64 (hv + hb)), (11, i64 ((a : Int) + 1))], H'⟩ Q := fun h => by
      rw [h] at hF hT
      simpa only [Int.natCast_add, Int.natCast_one] using hnx hF hT
    clear hF hT hnx
    have busy : (bz = false ∧ wt = false) ∨ (bz = false ∧ wt = true ∧ ¬ d.asker = a) ∨ (bz = false ∧ wt = true ∧ d.asker = a ∧ ¬ (n4 : Int) = 0) ∨ (bz = true ∧ wt = true ∧ d.asker = a ∧ (n4 : Int) = 0) := by
      rw [← hbz]
      cases wt <;> by_cases x1 : d.asker = a <;> by_cases x2 : (n4 : Int) = 0 <;> first | (simp [x1, x2]; done) | (simp [x1, x2]; omega)
    clear hbz
    rcases busy with ⟨b1, b2⟩ | ⟨b1, b2, b3⟩ | ⟨b1, b2, b3, b4⟩ | ⟨b1, b2, b3, b4⟩
    all_goals subst b1 b2
    all_goals simp (disch := omega) only [go_sem, g0, g1, g2, hX', w1, s3, hst, hsf, hsh, hso, simprocAttr, passK_shut CxP48, QK.use c8, QK.use c12, QK.use c4, QK.use c3, QK.use c9, QK.use c1, QK.use c2, passK_shut CxP47, QK.use ob, QK.use oc]
    all_goals rcases (show Y.state = 10 ∨ Y.state = 11 ∨ Y.state = 5 ∨ Y.state = 6 ∨ Y.state = 7 ∨ Y.state = 8 ∨ Y.state = 9 ∨ (¬ Y.state = 10 ∧ ¬ Y.state = 11 ∧ ¬ Y.state = 5 ∧ ¬ Y.state = 6 ∧ ¬ Y.state = 7 ∧ ¬ Y.state = 8 ∧ ¬ Y.state = 9) by omega) with hs | hs | hs | hs | hs | hs | hs | hs
    all_goals first | have g1 : v1 = 1 := by (rw [← e1]; simp [hs, b2i]; done) | have g1 : v1 = 0 := by (rw [← e1]; simp [hs, b2i]; done)
    all_goals first | have g2 : v2 = 1 := by (rw [← e2]; simp [hs, b2i]; done) | have g2 : v2 = 0 := by (rw [← e2]; simp [hs, b2i]; done)
    all_goals first | have g3 : v3 = 1 := by (rw [← e3]; simp [hs, b2i]; done) | have g3 : v3 = 0 := by (rw [← e3]; simp [hs, b2i]; done)
    all_goals first | have g4 : v4 = true := by (rw [← e4]; simp [hs]; done) | have g4 : v4 = false := by (rw [← e4]; simp [hs]; done)
    all_goals clear e1 e2 e3 e4
    all_goals by_cases p1 : (n3 + n9 : Int) = v1
    all_goals simp (disch := omega) only [go_sem, g0, g1, g2, hX', w1, s3, hst, hsf, hsh, hso, simprocAttr, passK_shut CxP48, QK.use c8, QK.use c12, QK.use c4, QK.use c3, QK.use c9, QK.use c1, QK.use c2, passK_shut CxP47, QK.use ob, QK.use oc]
    all_goals try (refine no ?_ _; simp [p1]; done)
    all_goals by_cases p2 : (n1 : Int) = v2
    all_goals simp (disch := omega) only [go_sem, g0, g1, g2, hX', w1, s3, hst, hsf, hsh, hso, simprocAttr, passK_shut CxP48, QK.use c8, QK.use c12, QK.use c4, QK.use c3, QK.use c9, QK.use c1, QK.use c2, passK_shut CxP47, QK.use ob, QK.use oc]
    all_goals try (refine no ?_ _; simp [p2]; done)
    all_goals by_cases p3 : (n2 : Int) = v3
    all_goals simp (disch := omega) only [go_sem, g0, g1, g2, hX', w1, s3, hst, hsf, hsh, hso, simprocAttr, passK_shut CxP48, QK.use c8, QK.use c12, QK.use c4, QK.use c3, QK.use c9, QK.use c1, QK.use c2, passK_shut CxP47, QK.use ob, QK.use oc]
    all_goals try (refine no ?_ _; simp [p3, g4]; done)
    all_goals rw [loop_norm (l := [2, 3, 4, 7, 8, 9, 10, 11]) rfl]
    all_goals simp (disch := omega) only [go_sem, simprocAttr]
    all_goals exact yes (by simp [p1, p2, p3, g4])
end Go.Proofs.YtnhknhniemfnjaaGreatDoor.Ev
namespace Go.Proofs.YtnhknhniemfnjaaGreatDoor.Ev
open Go Go.RowKit
set_option maxRecDepth 100000
def ck (net : List Mg) (n k : Int) : Nat := ct net n k 0 0
theorem ck_five (net : List Mg) (n : Int) : ck net n 6 + ck net n 7 + ck net n 10 + ck net n 11 + ck net n 4 ≤ net.length := by
  unfold ck ct
  rw [cntM_or _ _ (fun m e => ?_), cntM_or _ _ (fun m e => ?_), cntM_or _ _ (fun m e => ?_), cntM_or _ _ (fun m e => ?_)]
  · exact cntM_le _ _
  all_goals
    simp only [selB, Bool.and_eq_true, Bool.or_eq_true, decide_eq_true_eq] at e
    simp only [selB, Bool.and_eq_false_iff, decide_eq_false_iff_not]
    refine .inl fun h => ?_
    omega
theorem ck_two (net : List Mg) (n : Int) : ck net n 5 + ck net n 6 ≤ net.length := ct_two (by omega)
def rpEnd (d : Dr) (net : List Mg) (n has : Int) : Bool :=
  decide ((ck net n 6 + ck net n 7 + ck net n 10 + ck net n 11 + ck net n 4 + has : Int) = b2i (decide (d.wait % 2 = 1))) &&
  (if d.wait / 2 = 1 then decide ((ck net n 5 + ck net n 6 : Int) = 1) else decide ((ck net n 5 : Int) = 0))
def pairedL (d : Dr) (L : Nat → Ln) (net : List Mg) (n : Int) (k : Nat) : Bool := allN (rpB d L net n) 0 k && rpEnd d net n (hasN L k)
set_option maxHeartbeats 8000000 in
theorem rpaired_ev {ws ss : List A} {c h o s y : Int} {net : List Mg} {J : List (List A)} {W : Nat → Nat → Nat → Ln} (I : InR ws ss c h o s y net J W) (hok : ∀ m ∈ net, m.Ok) (hn : net.length ≤ 4611686018427387904) {D : Nat → Dr} (HD : SysH ss D) {l : Nat} (hl : l < 6) : EvQ Cx 27 [.agg ws, .agg ss, i64 l] (bo (pairedL (D l) (fun i => atL (W i) s y l) net l J.length)) := by
  have w1 := I.world.len
  have s1 := I.sys.len
  have w2 := I.world.one
  have s2 := I.sys.one
  have hst : List.take 69 ss = ss := List.take_of_length_le (by omega)
  have hsf := I.sys.fz
  have hsh := I.sys.shut
  have hmany := I.many
  obtain ⟨q1, q2, _⟩ := id I.ok
  obtain ⟨td, hd⟩ := HD.each l hl
  have dk := HD.ok l hl
  obtain ⟨k1, k2⟩ := dk.wait
  have c4 : EvQ Cx 49 [.agg ss, i64 l, i8 4] (i64 (ck net l 4)) := kind_evS I.sys hok hn
  have c5 : EvQ Cx 49 [.agg ss, i64 l, i8 5] (i64 (ck net l 5)) := kind_evS I.sys hok hn
  have c6 : EvQ Cx 49 [.agg ss, i64 l, i8 6] (i64 (ck net l 6)) := kind_evS I.sys hok hn
  have c7 : EvQ Cx 49 [.agg ss, i64 l, i8 7] (i64 (ck net l 7)) := kind_evS I.sys hok hn
  have c10 : EvQ Cx 49 [.agg ss, i64 l, i8 10] (i64 (ck net l 10)) := kind_evS I.sys hok hn
  have c11 : EvQ Cx 49 [.agg ss, i64 l, i8 11] (i64 (ck net l 11)) := kind_evS I.sys hok hn
  have b5 := ck_five net l
  have b2 := ck_two net l
  have hh := hasN_le (fun i => atL (W i) s y l) J.length
  have hone := one_ev (decide ((D l).wait % 2 = 1))
  have hb2 := b2i_le (decide ((D l).wait % 2 = 1))
  refine evQ_of CxB27 rfl (by simp [fn27]) ?_
  unfold pairedL
  have f8 : ((D l).wait % 2 == 1) = decide ((D l).wait % 2 = 1) := rfl
  simp (disch := omega) only [go_sem, w1, w2, s1, s2, hd, simprocAttr]
  rw [f8, loop_norm (l := [2, 3, 4, 7, 8, 9, 10, 11]) rfl]
  simp (disch := omega) only [go_sem, simprocAttr]
  refine rpaired_out I hok hn dk (by omega) J.length 0 _ (by omega) ⟨rfl, rfl, rfl⟩ (fun h H => ?_) fun h H L => ?_
  · rw [h]
    simp (disch := omega) only [go_sem, simprocAttr]
  · have g0 := L.w
    have g1 := L.s
    have g2 := L.d
    rw [h, Bool.true_and]
    unfold rpEnd
    generalize b2i (decide ((D l).wait % 2 = 1)) = bw at *
    generalize hasN (fun i => atL (W i) s y l) J.length = hv at *
    generalize ck net l 4 = n4 at *
    generalize ck net l 5 = n5 at *
    generalize ck net l 6 = n6 at *
    generalize ck net l 7 = n7 at *
    generalize ck net l 10 = n10 at *
    generalize ck net l 11 = n11 at *
    by_cases p1 : (n6 + n7 + n10 + n11 + n4 + hv : Int) = bw
    case neg =>
      rw [decide_eq_false p1, Bool.false_and]
      simp (disch := omega) only [go_sem, g0, g1, g2, s1, hst, hsf, hsh, s2, simprocAttr, passK_shut CxP49, QK.use c4, QK.use c5, QK.use c6, QK.use c7, QK.use c10, QK.use c11, passK_shut CxP47, QK.use hone]
    rw [decide_eq_true p1, Bool.true_and]
    by_cases p2 : (D l).wait / 2 = 1
    · rw [if_pos p2]
      simp (disch := omega) only [go_sem, g0, g1, g2, s1, hst, hsf, hsh, s2, simprocAttr, passK_shut CxP49, QK.use c4, QK.use c5, QK.use c6, QK.use c7, QK.use c10, QK.use c11, passK_shut CxP47, QK.use hone]
      rfl
    · rw [if_neg p2]
      simp (disch := omega) only [go_sem, g0, g1, g2, s1, hst, hsf, hsh, s2, simprocAttr, passK_shut CxP49, QK.use c4, QK.use c5, QK.use c6, QK.use c7, QK.use c10, QK.use c11, passK_shut CxP47, QK.use hone]
      rfl
end Go.Proofs.YtnhknhniemfnjaaGreatDoor.Ev
namespace Go.Proofs.YtnhknhniemfnjaaGreatDoor.Ev
open Go Go.RowKit
set_option maxRecDepth 100000
structure Rp where
  kind : Int
  ways : Int
  o0 : Int
  o1 : Int
  o2 : Int
  o3 : Int
  b : Int
abbrev cR (r : Rp) : List A := [i8 r.kind, i64 r.ways, i8 r.o0, i8 r.o1, i8 r.o2, i8 r.o3, i8 r.b]
attribute [go_sem] cR
structure Rp.Ok (r : Rp) : Prop where
  o0 : 0 ≤ r.o0 ∧ r.o0 ≤ 255
  o1 : 0 ≤ r.o1 ∧ r.o1 ≤ 255
  o2 : 0 ≤ r.o2 ∧ r.o2 ≤ 255
  o3 : 0 ≤ r.o3 ∧ r.o3 ≤ 255
structure CacheN (cs : List A) (N : Nat → Rp) : Prop where
  note : ∀ s < 4, ∃ tl, List.drop (128 + s * 7) cs = cR (N s) ++ tl
  ok : ∀ s < 4, (N s).Ok
structure CacheO (W : Nat → Nat → Ln) : Prop where
  ok : ∀ s w, s < 4 → w < 4 → (W s w).Ok
def zeroLn (x : Ln) : Bool := x.line == 0 && (x.state == 0 && (x.need == 0 && (x.has == false && (x.d0 == 0 && (x.d1 == 0 && (x.d2 == 0 && x.d3 == 0))))))
def slotB (o s y : Int) (W : Nat → Nat → Ln) (i j : Nat) : Bool :=
  if (W i j).state = 0 ∨ s ≤ i ∨ y ≤ j then zeroLn (W i j)
  else decide ((W i j).state < 12 ∧ (W i j).line < 5 / o + 1) && (decide ((W i j).line % s = i) && decide (findR (W ((W i j).line % s).toNat) (W i j).line 0 y.toNat = some j))
set_option maxHeartbeats 16000000 in
theorem rslot_loop {cs : List A} {W : Nat → Nat → Ln} (hC : CacheR cs W) (hO : CacheO W) {c h o s y : Int} (hk : OkG c h o s y) {i : Nat} (hi : i < 4) {KK : List It} {Q : Ex → St → Prop} :
    ∀ (e j : Nat) (H : Heap), j + e = 4 → H[0]? = some (some ⟨31, [i64 c, i64 h, i64 o, i64 s, i64 y], true⟩) → H[1]? = some (some ⟨90, cs, true⟩) →
      (allN (slotB o s y W i) j e = false → ∀ H, UnwK Cx .back KK ⟨[(4, bo false)], H⟩ Q) →
      (allN (slotB o s y W i) j e = true → ∀ H, H[0]? = some (some ⟨31, [i64 c, i64 h, i64 o, i64 s, i64 y], true⟩) → H[1]? = some (some ⟨90, cs, true⟩) → UnwK Cx (.out 2) KK ⟨[(20, bo false), (19, i64 4), (2, .ptr 0 0), (3, .ptr 1 0), (5, i64 i), (6, i64 4)], H⟩ Q) →
      RunK Cx (.code (.loop m34_l1) :: KK) ⟨[(2, .ptr 0 0), (3, .ptr 1 0), (5, i64 i), (6, i64 j)], H⟩ Q := by
  have hL := rlines_yes c h o s y hk
  obtain ⟨c1, c2, h1, h2, o1, o2, s1, s2, y1, y2⟩ := id hk
  have hlc := hC.len
  have hfz := hC.fz
  have hsh := hC.shut
  have hct : List.take 160 cs = cs := List.take_of_length_le (by omega)
  intro e
  induction e with
  | zero =>
    intro j H he g0 g1 _ hT
    have hj : j = 4 := by omega
    subst hj
    have := hT rfl H g0 g1
    rw [runK_loop]
    simp (disch := omega) only [go_sem, simprocAttr]
    exact this
  | succ e ih =>
    intro j H he g0 g1 hN hY
    have l0 := ap_low g0
    have l1 := ap_low g1
    obtain ⟨tl, hdr⟩ := hC.way i j hi (by omega)
    have hk' := hO.ok i j hi (by omega)
    obtain ⟨a1, a2⟩ := hk'.line
    obtain ⟨a3, a4⟩ := hk'.state
    have hF := rfind_ev hC hk (l := (W i j).line) a1 a2
    have es : slotB o s y W i j = (if (W i j).state = 0 ∨ s ≤ i ∨ y ≤ j then zeroLn (W i j)
  else decide ((W i j).state < 12 ∧ (W i j).line < 5 / o + 1) && (decide ((W i j).line % s = i) && decide (findR (W ((W i j).line % s).toNat) (W i j).line 0 y.toNat = some j))) := rfl
    simp only [allN] at hN hY
    have no : slotB o s y W i j = false → ∀ H, UnwK Cx .back KK ⟨[(4, bo false)], H⟩ Q := fun h => hN (by rw [h]; rfl)
    have yes : slotB o s y W i j = true → ∀ T, RunK Cx (.code (.loop m34_l1) :: KK) ⟨[(2, .ptr 0 0), (3, .ptr 1 0), (5, i64 i), (6, i64 ((j : Int) + 1))], H ++ T⟩ Q := fun h T => by
      rw [h] at hN hY
      simpa only [Int.natCast_add, Int.natCast_one] using ih (j + 1) (H ++ T) (by omega) (l0 T) (l1 T) hN hY
    clear ih hN hY
    rw [es] at no yes
    generalize findR (W ((W i j).line % s).toNat) (W i j).line 0 y.toNat = fd at *
    generalize W i j = x at *
    have m1 := Int.emod_nonneg x.line (show s ≠ 0 by omega)
    have m2 := Int.emod_lt_of_pos x.line (show 0 < s by omega)
    generalize x.line % s = xs at *
    rw [runK_loop]
    by_cases q0 : x.state = 0
    · rw [if_pos (.inl q0)] at no yes
      have hz : zeroLn x = (x.line == 0 && (x.need == 0 && (!x.has && (x.d0 == 0 && (x.d1 == 0 && (x.d2 == 0 && x.d3 == 0)))))) := by
        unfold zeroLn
        rw [q0]
        cases x.has <;> rfl
      rw [hz] at no yes
      simp (disch := omega) only [go_sem, g0, g1, l0, l1, hdr, hct, hfz, hsh, hlc, simprocAttr, passK_shut CxP59, QK.use hF, passK_shut CxP23, QK.use hL]
      cases qz : (x.line == 0 && (x.need == 0 && (!x.has && (x.d0 == 0 && (x.d1 == 0 && (x.d2 == 0 && x.d3 == 0))))))
      · simp (disch := omega) only [go_sem, qz, simprocAttr]
        exact no qz _
      · simp (disch := omega) only [go_sem, qz, simprocAttr]
        rw [loop_norm (l := [2, 3, 5, 6]) rfl]
        simp (disch := omega) only [go_sem, simprocAttr]
        exact yes qz _
    have hz : zeroLn x = false := by
      unfold zeroLn
      rw [beq_no q0, Bool.false_and, Bool.and_false]
    by_cases q1 : s ≤ i
    · rw [if_pos (.inr (.inl q1)), hz] at no yes
      simp (disch := omega) only [go_sem, g0, g1, l0, l1, hdr, hct, hfz, hsh, hlc, simprocAttr, passK_shut CxP59, QK.use hF, passK_shut CxP23, QK.use hL]
      exact no rfl _
    by_cases q2 : y ≤ j
    · rw [if_pos (.inr (.inr q2)), hz] at no yes
      simp (disch := omega) only [go_sem, g0, g1, l0, l1, hdr, hct, hfz, hsh, hlc, simprocAttr, passK_shut CxP59, QK.use hF, passK_shut CxP23, QK.use hL]
      exact no rfl _
    rw [if_neg (by omega)] at no yes
    by_cases q3 : 12 ≤ x.state
    · simp (disch := omega) only [go_sem, g0, g1, l0, l1, hdr, hct, hfz, hsh, hlc, simprocAttr, passK_shut CxP59, QK.use hF, passK_shut CxP23, QK.use hL]
      exact no (by rw [decide_eq_false (by omega), Bool.false_and]) _
    by_cases q4 : 5 / o + 1 ≤ x.line
    · simp (disch := omega) only [go_sem, g0, g1, l0, l1, hdr, hct, hfz, hsh, hlc, simprocAttr, passK_shut CxP59, QK.use hF, passK_shut CxP23, QK.use hL]
      exact no (by rw [decide_eq_false (by omega), Bool.false_and]) _
    rw [decide_eq_true (show x.state < 12 ∧ x.line < 5 / o + 1 by omega), Bool.true_and] at no yes
    cases fd with
    | none =>
      simp only [Option.isSome_none, Option.getD_none] at hF
      simp (disch := omega) only [go_sem, g0, g1, l0, l1, hdr, hct, hfz, hsh, hlc, simprocAttr, passK_shut CxP59, QK.use hF, passK_shut CxP23, QK.use hL]
      exact no (by simp) _
    | some w =>
      simp only [Option.isSome_some, Option.getD_some] at hF
      by_cases q5 : xs = i
      case neg =>
        simp (disch := omega) only [go_sem, g0, g1, l0, l1, hdr, hct, hfz, hsh, hlc, simprocAttr, passK_shut CxP59, QK.use hF, passK_shut CxP23, QK.use hL]
        exact no (by simp [q5]) _
      by_cases q6 : w = j
      case neg =>
        simp (disch := omega) only [go_sem, g0, g1, l0, l1, hdr, hct, hfz, hsh, hlc, simprocAttr, passK_shut CxP59, QK.use hF, passK_shut CxP23, QK.use hL]
        exact no (by simp [q6]) _
      · simp (disch := omega) only [go_sem, g0, g1, l0, l1, hdr, hct, hfz, hsh, hlc, simprocAttr, passK_shut CxP59, QK.use hF, passK_shut CxP23, QK.use hL]
        rw [loop_norm (l := [2, 3, 5, 6]) rfl]
        simp (disch := omega) only [go_sem, simprocAttr]
        exact yes (by simp [q5, q6]) _
end Go.Proofs.YtnhknhniemfnjaaGreatDoor.Ev
namespace Go.Proofs.YtnhknhniemfnjaaGreatDoor.Ev
open Go Go.RowKit
set_option maxRecDepth 100000
def zeroR (r : Rp) : Bool := r.kind == 0 && (r.ways == 0 && ((r.o0 == 0 && (r.o1 == 0 && (r.o2 == 0 && r.o3 == 0))) && r.b == 0))
def okR (r : Rp) : Bool := rpOk r.kind r.ways r.o0 r.o1 r.o2 r.o3 r.b
def noteB (s y : Int) (N : Nat → Rp) (i : Nat) : Bool := if s ≤ i then zeroR (N i) else okR (N i) && (decide ((N i).kind = (N 0).kind) && decide ((N i).ways = y))
def rowB (o s y : Int) (W : Nat → Nat → Ln) (N : Nat → Rp) (i : Nat) : Bool := allN (slotB o s y W i) 0 4 && noteB s y N i
set_option maxHeartbeats 16000000 in
theorem rrow_loop {cs : List A} {W : Nat → Nat → Ln} {N : Nat → Rp} (hC : CacheR cs W) (hO : CacheO W) (hN : CacheN cs N) {c h o s y : Int} (hk : OkG c h o s y) {KK : List It} {Q : Ex → St → Prop} :
    ∀ (e i : Nat) (H : Heap), i + e = 4 → H[0]? = some (some ⟨31, [i64 c, i64 h, i64 o, i64 s, i64 y], true⟩) → H[1]? = some (some ⟨90, cs, true⟩) →
      (allN (rowB o s y W N) i e = false → ∀ H, UnwK Cx .back KK ⟨[(4, bo false)], H⟩ Q) →
      (allN (rowB o s y W N) i e = true → ∀ H, UnwK Cx (.out 0) KK ⟨[(16, bo false), (15, i64 4), (2, .ptr 0 0), (3, .ptr 1 0), (5, i64 4)], H⟩ Q) →
      RunK Cx (.code (.loop m34_l0) :: KK) ⟨[(2, .ptr 0 0), (3, .ptr 1 0), (5, i64 i)], H⟩ Q := by
  obtain ⟨c1, c2, h1, h2, o1, o2, s1, s2, y1, y2⟩ := id hk
  intro e
  induction e with
  | zero =>
    intro i H he g0 g1 _ hT
    have hj : i = 4 := by omega
    subst hj
    have := hT rfl H
    rw [runK_loop]
    simp (disch := omega) only [go_sem, simprocAttr]
    exact this
  | succ e ih =>
    intro i H he g0 g1 hF hT
    have hi : i < 4 := by omega
    have er : allN (rowB o s y W N) i (e + 1) = (allN (slotB o s y W i) 0 4 && noteB s y N i && allN (rowB o s y W N) (i + 1) e) := rfl
    rw [er] at hF hT
    have hnx := fun H' a b c d => ih (i + 1) H' (by omega) a b c d
    clear ih er
    rw [runK_loop]
    simp (disch := omega) only [go_sem, simprocAttr]
    rw [loop_norm (l := [2, 3, 5, 6]) rfl]
    simp (disch := omega) only [go_sem, simprocAttr]
    refine rslot_loop hC hO hk hi 4 0 _ rfl g0 g1 (fun h H' => ?_) fun h H' f0 f1 => ?_
    · simp (disch := omega) only [go_sem, simprocAttr]
      exact hF (by rw [h]; rfl) _
    rw [h, Bool.true_and] at hF hT
    have k0 := ap_low f0
    have k1 := ap_low f1
    obtain ⟨tl, hdn⟩ := hN.note i hi
    obtain ⟨t0, hd0⟩ := hN.note 0 (by decide)
    rw [Nat.zero_mul, Nat.add_zero] at hd0
    have hR := rrpright_ev (k := (N i).kind) (w := (N i).ways) (b := (N i).b) (hN.ok i hi).o0 (hN.ok i hi).o1 (hN.ok i hi).o2 (hN.ok i hi).o3
    rw [show rpOk (N i).kind (N i).ways (N i).o0 (N i).o1 (N i).o2 (N i).o3 (N i).b = okR (N i) from rfl] at hR
    have en : noteB s y N i = if s ≤ i then zeroR (N i) else okR (N i) && (decide ((N i).kind = (N 0).kind) && decide ((N i).ways = y)) := rfl
    have no : noteB s y N i = false → ∀ H, UnwK Cx .back KK ⟨[(4, bo false)], H⟩ Q := fun h => hF (by rw [h]; rfl)
    have yes : noteB s y N i = true → ∀ T, RunK Cx (.code (.loop m34_l0) :: KK) ⟨[(2, .ptr 0 0), (3, .ptr 1 0), (5, i64 ((i : Int) + 1))], H' ++ T⟩ Q := fun h T => by
      rw [h] at hF hT
      simpa only [Int.natCast_add, Int.natCast_one] using hnx (H' ++ T) (k0 T) (k1 T) hF hT
    clear hnx hF hT
    rw [en] at no yes
    generalize N i = r at *
    generalize N 0 = r0 at *
    by_cases q1 : s ≤ i
    · rw [if_pos q1] at no yes
      cases qz : (r.kind == 0 && (r.ways == 0 && ((r.o0 == 0 && (r.o1 == 0 && (r.o2 == 0 && r.o3 == 0))) && r.b == 0)))
      · simp (disch := omega) only [go_sem, f0, f1, k0, k1, hdn, hd0, simprocAttr, passK_shut CxP60, QK.use hR]
        simp (disch := omega) only [go_sem, qz, f0, f1, k0, k1, simprocAttr]
        exact no qz _
      · simp (disch := omega) only [go_sem, f0, f1, k0, k1, hdn, hd0, simprocAttr, passK_shut CxP60, QK.use hR]
        simp (disch := omega) only [go_sem, qz, f0, f1, k0, k1, simprocAttr]
        rw [loop_norm (l := [2, 3, 5]) rfl]
        simp (disch := omega) only [go_sem, simprocAttr]
        exact yes qz _
    rw [if_neg q1] at no yes
    cases qr : okR r <;> rw [qr] at hR no yes
    · simp (disch := omega) only [go_sem, f0, f1, k0, k1, hdn, hd0, simprocAttr, passK_shut CxP60, QK.use hR]
      exact no rfl _
    by_cases q2 : r.kind = r0.kind
    case neg =>
      simp (disch := omega) only [go_sem, f0, f1, k0, k1, hdn, hd0, simprocAttr, passK_shut CxP60, QK.use hR]
      exact no (by simp [q2]) _
    by_cases q3 : r.ways = y
    case neg =>
      simp (disch := omega) only [go_sem, f0, f1, k0, k1, hdn, hd0, simprocAttr, passK_shut CxP60, QK.use hR]
      exact no (by simp [q3]) _
    simp (disch := omega) only [go_sem, f0, f1, k0, k1, hdn, hd0, simprocAttr, passK_shut CxP60, QK.use hR]
    rw [loop_norm (l := [2, 3, 5]) rfl]
    simp (disch := omega) only [go_sem, simprocAttr]
    exact yes (by simp [q2, q3]) _
def rtagB (c h o s y : Int) (W : Nat → Nat → Ln) (N : Nat → Rp) : Bool := decide (OkG c h o s y) && allN (rowB o s y W N) 0 4
set_option maxHeartbeats 8000000 in
theorem rtags_ev {cs : List A} {W : Nat → Nat → Ln} {N : Nat → Rp} (hC : CacheR cs W) (hO : CacheO W) (hN : CacheN cs N) (c h o s y : Int) : EvQ Cx 34 [encG c h o s y, .agg cs] (bo (rtagB c h o s y W N)) := by
  have hR := rright_ev c h o s y
  have hlc := hC.len
  have hone := hC.one
  unfold rtagB
  refine evQ_of CxB34 rfl (by simp [fn34]) ?_
  by_cases hk : OkG c h o s y
  · rw [decide_eq_true hk] at hR ⊢
    simp (disch := omega) only [go_sem, hlc, hone, simprocAttr, passK_shut CxP33, QK.use hR]
    rw [loop_norm (l := [2, 3, 5]) rfl]
    simp (disch := omega) only [go_sem, simprocAttr]
    refine rrow_loop hC hO hN hk 4 0 _ rfl rfl rfl (fun h H => ?_) fun h H => ?_
    all_goals
      rw [h]
      simp (disch := omega) only [go_sem, simprocAttr]
  · rw [decide_eq_false hk] at hR ⊢
    simp (disch := omega) only [go_sem, hlc, hone, simprocAttr, passK_shut CxP33, QK.use hR]
end Go.Proofs.YtnhknhniemfnjaaGreatDoor.Ev
namespace Go.Proofs.YtnhknhniemfnjaaGreatDoor.Ev
open Go Go.RowKit
set_option maxRecDepth 100000
def homeB (n : Nat) (d : Dr) : Bool := decide (d.state ≤ 3) && (decide (d.wait ≤ 3) && (decide (d.asker < n) && (decide (d.owner = 255 ∨ d.owner < n) && vwOk d.kind d.mask d.all n)))
set_option maxHeartbeats 16000000 in
theorem rsh_caches {ws ss : List A} {c h o s y : Int} {net : List Mg} {J : List (List A)} {W : Nat → Nat → Nat → Ln} {N : Nat → Nat → Rp} (hW : WorldR ws c h o s y) (hS : SysR ss net) (hC : SysC ss J W) (hO : ∀ i < J.length, CacheO (W i)) (hN : ∀ i cs, J[i]? = some cs → CacheN cs (N i)) (hJ : J.length ≤ 8) {KK : List It} {Q : Ex → St → Prop} :
    ∀ (e i : Nat), i + e = J.length → (allN (fun i => rtagB c h o s y (W i) (N i)) i e = false → UnwK Cx .back KK ⟨[(4, bo false)], [some ⟨44, ws, true⟩, some ⟨69, ss, true⟩]⟩ Q) →
      (allN (fun i => rtagB c h o s y (W i) (N i)) i e = true → UnwK Cx (.out 0) KK ⟨[(26, bo false), (25, i64 J.length), (24, .sl J.length J.flatten), (23, .ptr 1 1), (22, i64 J.length), (2, .ptr 0 0), (3, .ptr 1 0), (5, i64 J.length)], [some ⟨44, ws, true⟩, some ⟨69, ss, true⟩]⟩ Q) →
      RunK Cx (.code (.loop m16_l0) :: KK) ⟨[(2, .ptr 0 0), (3, .ptr 1 0), (5, i64 i)], [some ⟨44, ws, true⟩, some ⟨69, ss, true⟩]⟩ Q := by
  obtain ⟨tw, hw⟩ := hW.geo
  obtain ⟨ts, hs⟩ := hC.caches
  have w1 := hW.len
  have w2 := hW.one
  have s3 := hS.len
  have s4 := hS.one
  have hfl := flat_len hC.all
  intro e
  induction e with
  | zero =>
    intro i he _ hT
    have hi : i = J.length := by omega
    subst hi
    have := hT rfl
    rw [runK_loop]
    simp (disch := omega) only [go_sem, hs, s3, Int.lt_irrefl, simprocAttr]
    exact this
  | succ e ih =>
    intro i he hF hT
    have hic : i < J.length := by omega
    obtain ⟨cs, hcs⟩ : ∃ cs, J[i]? = some cs := ⟨_, List.getElem?_eq_getElem hic⟩
    have hCi := hC.each i cs hcs
    obtain ⟨tl, hd⟩ := flat_drop hC.all hcs
    have hR := rtags_ev hCi (hO i hic) (hN i cs hcs) c h o s y
    have hlc := hCi.len
    have hsh := hCi.shut
    have hfz := hCi.fz
    have hi8 : i * 160 + 160 ≤ J.length * 160 := by omega
    have htc : List.take 160 (cs ++ tl) = cs := by rw [← hlc, List.take_left]
    have hlt : 160 ≤ (cs ++ tl).length := by rw [List.length_append]; omega
    simp only [allN] at hF hT
    rw [runK_loop]
    cases hr : rtagB c h o s y (W i) (N i) <;> rw [hr] at hF hT hR
    · simp (disch := omega) only [go_sem, hw, hs, hd, htc, hlt, hsh, hfz, w1, w2, s3, s4, hic, simprocAttr, passK_shut CxP34, QK.use hR]
      exact hF rfl
    · simp (disch := omega) only [go_sem, hw, hs, hd, htc, hlt, hsh, hfz, w1, w2, s3, s4, hic, simprocAttr, passK_shut CxP34, QK.use hR]
      rw [loop_norm (l := [2, 3, 5]) rfl]
      simp (disch := omega) only [go_sem, simprocAttr]
      simpa only [i64, Int.natCast_add, Int.natCast_one] using ih (i + 1) (by omega) hF hT
set_option maxHeartbeats 16000000 in
theorem rsh_net {ws ss : List A} {c h o s y : Int} {net : List Mg} (hk : OkG c h o s y) (hW : WorldR ws c h o s y) (hS : SysR ss net) (hok : ∀ m ∈ net, m.Ok) (hn : net.length ≤ 4611686018427387904) {KK : List It} {Q : Ex → St → Prop} :
    ∀ (suf pre : List Mg), net = pre ++ suf → (suf.all (refB c h o) = false → UnwK Cx .back KK ⟨[(4, bo false)], [some ⟨44, ws, true⟩, some ⟨69, ss, true⟩]⟩ Q) →
      (suf.all (refB c h o) = true → UnwK Cx (.out 2) KK ⟨[(42, bo false), (41, i64 net.length), (40, .sl net.length (encN net)), (39, .ptr 1 68), (38, i64 net.length), (2, .ptr 0 0), (3, .ptr 1 0), (6, i64 net.length)], [some ⟨44, ws, true⟩, some ⟨69, ss, true⟩]⟩ Q) →
      RunK Cx (.code (.loop m16_l1) :: KK) ⟨[(2, .ptr 0 0), (3, .ptr 1 0), (6, i64 pre.length)], [some ⟨44, ws, true⟩, some ⟨69, ss, true⟩]⟩ Q := by
  obtain ⟨tw, hw⟩ := hW.geo
  have w1 := hW.len
  have w2 := hW.one
  have hss := hS.len
  have hnet := hS.net
  intro suf
  induction suf with
  | nil =>
    intro pre he _ hT
    rw [List.append_nil] at he
    subst he
    have := hT rfl
    rw [runK_loop]
    simp (disch := omega) only [go_sem, hss, hnet, Int.lt_irrefl, Nat.le_refl, simprocAttr]
    exact this
  | cons m suf ih =>
    intro pre he hF hT
    have hm : m ∈ net := by rw [he]; simp
    have hR := rmright_ev (hok m hm) hk
    have hlen : net.length = pre.length + (suf.length + 1) := by rw [he]; simp
    have hlt : pre.length < net.length := by omega
    have hdd : List.drop (pre.length * 11) (encN net) = cM m ++ encN suf := by rw [he]; exact encN_drop pre (m :: suf)
    have hll := encN_len net
    have := ih (pre ++ [m]) (by rw [he]; simp)
    simp only [List.length_append, List.length_cons, List.length_nil, Nat.zero_add, Int.natCast_add, Int.natCast_one] at this
    rw [List.all_cons] at hF hT
    rw [runK_loop]
    cases hr : refB c h o m <;> rw [hr] at hF hT hR
    · simp (disch := omega) only [go_sem, hw, w1, hss, hnet, hdd, hlt, hll, List.length_append, Nat.le_refl, simprocAttr, passK_shut CxP35, QK.use hR]
      exact hF rfl
    · simp (disch := omega) only [go_sem, hw, w1, hss, hnet, hdd, hlt, hll, List.length_append, Nat.le_refl, simprocAttr, passK_shut CxP35, QK.use hR]
      rw [loop_norm (l := [2, 3, 6]) rfl]
      simp (disch := omega) only [go_sem, simprocAttr]
      exact this hF hT
structure SysM (D : Nat → Dr) : Prop where
  mask : ∀ n < 6, (D n).mask < 2 ^ 64
set_option maxHeartbeats 16000000 in
theorem rsh_homes {ws ss : List A} {c h o s y : Int} {net : List Mg} {D : Nat → Dr} (hk : OkG c h o s y) (hW : WorldR ws c h o s y) (hS : SysR ss net) (hD : SysH ss D) (hM : SysM D) {KK : List It} {Q : Ex → St → Prop} :
    ∀ (e n : Nat) (H : Heap), (n + e : Int) = 5 / o + 1 → H[0]? = some (some ⟨44, ws, true⟩) → H[1]? = some (some ⟨69, ss, true⟩) → (allN (fun n => homeB c.toNat (D n)) n e = false → ∀ H, UnwK Cx .back KK ⟨[(4, bo false)], H⟩ Q) →
      (allN (fun n => homeB c.toNat (D n)) n e = true → ∀ H, UnwK Cx (.out 4) KK ⟨[(58, bo false), (57, i64 (5 / o + 1)), (56, encG c h o s y), (55, .ptr 0 10), (54, i64 (5 / o + 1)), (2, .ptr 0 0), (3, .ptr 1 0), (7, i64 (5 / o + 1))], H⟩ Q) →
      RunK Cx (.code (.loop m16_l2) :: KK) ⟨[(2, .ptr 0 0), (3, .ptr 1 0), (7, i64 n)], H⟩ Q := by
  obtain ⟨tw, hw⟩ := hW.geo
  have w1 := hW.len
  have s3 := hS.len
  have hL := rlines_yes c h o s y hk
  obtain ⟨c1, c2, h1, h2, o1, o2, s1, s2, y1, y2⟩ := id hk
  have lo : 5 / o + 1 ≤ 6 := by
    have := Int.ediv_le_self o (show (0 : Int) ≤ 5 by omega)
    rcases (show o = 1 ∨ o = 2 ∨ o = 3 ∨ o = 4 by omega) with rfl | rfl | rfl | rfl <;> decide
  intro e
  induction e with
  | zero =>
    intro n H he g0 g1 _ hT
    have hn : (n : Int) = 5 / o + 1 := by omega
    have := hT rfl H
    rw [← hn] at this
    rw [← hn] at hL
    rw [runK_loop]
    simp (disch := omega) only [go_sem, hw, g0, w1, Int.lt_irrefl, simprocAttr, passK_shut CxP23, QK.use hL]
    exact this
  | succ e ih =>
    intro n H he g0 g1 hF hT
    have hn : (n : Int) < 5 / o + 1 := by omega
    have hn6 : n < 6 := by omega
    have l0 := ap_low g0
    have l1 := ap_low g1
    obtain ⟨tl, hdh⟩ := hD.each n hn6
    have dk := hD.ok n hn6
    obtain ⟨a1, a2⟩ := dk.state
    obtain ⟨a3, a4⟩ := dk.wait
    obtain ⟨a5, a6⟩ := dk.asker
    obtain ⟨a7, a8⟩ := dk.owner
    have hR := rvright_ev (D n).kind (hM.mask n hn6) (D n).all (n := c.toNat) (by omega) (by omega)
    rw [show ((c.toNat : Nat) : Int) = c by omega] at hR
    have eh : homeB c.toNat (D n) = (decide ((D n).state ≤ 3) && (decide ((D n).wait ≤ 3) && (decide ((D n).asker < c.toNat) && (decide ((D n).owner = 255 ∨ (D n).owner < c.toNat) && vwOk (D n).kind (D n).mask (D n).all c.toNat)))) := rfl
    rw [show ((c.toNat : Nat) : Int) = c by omega] at eh
    simp only [allN] at hF hT
    have no : homeB c.toNat (D n) = false → ∀ H, UnwK Cx .back KK ⟨[(4, bo false)], H⟩ Q := fun h => hF (by rw [h]; rfl)
    have yes : homeB c.toNat (D n) = true → ∀ T, RunK Cx (.code (.loop m16_l2) :: KK) ⟨[(2, .ptr 0 0), (3, .ptr 1 0), (7, i64 ((n : Int) + 1))], H ++ T⟩ Q := fun h T => by
      rw [h] at hF hT
      simpa only [Int.natCast_add, Int.natCast_one] using ih (n + 1) (H ++ T) (by omega) (l0 T) (l1 T) hF hT
    clear hF hT ih
    rw [eh] at no yes
    clear eh
    generalize vwOk (D n).kind (D n).mask (D n).all c.toNat = vw at *
    generalize D n = d at *
    rw [runK_loop]
    by_cases q1 : d.state ≤ 3
    case neg =>
      simp (disch := omega) only [go_sem, hw, g0, g1, l0, l1, hdh, w1, s3, simprocAttr, passK_shut CxP23, QK.use hL, passK_shut CxP36, QK.use hR]
      exact no (by simp [q1]) _
    by_cases q2 : d.wait ≤ 3
    case neg =>
      simp (disch := omega) only [go_sem, hw, g0, g1, l0, l1, hdh, w1, s3, simprocAttr, passK_shut CxP23, QK.use hL, passK_shut CxP36, QK.use hR]
      exact no (by simp [q2]) _
    by_cases q3 : d.asker < c
    case neg =>
      simp (disch := omega) only [go_sem, hw, g0, g1, l0, l1, hdh, w1, s3, simprocAttr, passK_shut CxP23, QK.use hL, passK_shut CxP36, QK.use hR]
      exact no (by simp [q3]) _
    by_cases q4 : d.owner = 255
    · cases vw
      · simp (disch := omega) only [go_sem, hw, g0, g1, l0, l1, hdh, w1, s3, simprocAttr, passK_shut CxP23, QK.use hL, passK_shut CxP36, QK.use hR]
        exact no (by simp) _
      · simp (disch := omega) only [go_sem, hw, g0, g1, l0, l1, hdh, w1, s3, simprocAttr, passK_shut CxP23, QK.use hL, passK_shut CxP36, QK.use hR]
        rw [loop_norm (l := [2, 3, 7]) rfl]
        simp (disch := omega) only [go_sem, simprocAttr]
        exact yes (by simp [q1, q2, q3, q4]) _
    by_cases q5 : d.owner < c
    case neg =>
      simp (disch := omega) only [go_sem, hw, g0, g1, l0, l1, hdh, w1, s3, simprocAttr, passK_shut CxP23, QK.use hL, passK_shut CxP36, QK.use hR]
      exact no (by simp [q4, q5]) _
    cases vw
    · simp (disch := omega) only [go_sem, hw, g0, g1, l0, l1, hdh, w1, s3, simprocAttr, passK_shut CxP23, QK.use hL, passK_shut CxP36, QK.use hR]
      exact no (by simp) _
    · simp (disch := omega) only [go_sem, hw, g0, g1, l0, l1, hdh, w1, s3, simprocAttr, passK_shut CxP23, QK.use hL, passK_shut CxP36, QK.use hR]
      rw [loop_norm (l := [2, 3, 7]) rfl]
      simp (disch := omega) only [go_sem, simprocAttr]
      exact yes (by simp [q1, q2, q3, q5]) _
def rshapeB (c h o s y : Int) (k : Nat) (W : Nat → Nat → Nat → Ln) (N : Nat → Nat → Rp) (net : List Mg) (D : Nat → Dr) : Bool :=
  decide (OkG c h o s y) && (decide ((k : Int) = c) && (allN (fun i => rtagB c h o s y (W i) (N i)) 0 k && (net.all (refB c h o) && allN (fun n => homeB c.toNat (D n)) 0 (5 / o + 1).toNat)))
structure StateR (ss : List A) (net : List Mg) (J : List (List A)) (W : Nat → Nat → Nat → Ln) (N : Nat → Nat → Rp) (D : Nat → Dr) : Prop where
  sys : SysR ss net
  caches : SysC ss J W
  cok : ∀ i < J.length, CacheO (W i)
  notes : ∀ i cs, J[i]? = some cs → CacheN cs (N i)
  few : J.length ≤ 8
  nok : ∀ m ∈ net, m.Ok
  some : net.length ≤ 40
  homes : SysH ss D
  masks : SysM D
set_option maxHeartbeats 8000000 in
theorem rshaped_ev {ws ss : List A} {c h o s y : Int} {net : List Mg} {J : List (List A)} {W : Nat → Nat → Nat → Ln} {N : Nat → Nat → Rp} {D : Nat → Dr} (hW : WorldR ws c h o s y) (T : StateR ss net J W N D) : EvQ Cx 16 [.agg ws, .agg ss] (bo (rshapeB c h o s y J.length W N net D)) := by
  obtain ⟨tw, hw⟩ := hW.geo
  obtain ⟨ts, hs⟩ := T.caches.caches
  have w1 := hW.len
  have w2 := hW.one
  have s3 := T.sys.len
  have s4 := T.sys.one
  have hR := rright_ev c h o s y
  unfold rshapeB
  refine evQ_of CxB16 rfl (by simp [fn16]) ?_
  by_cases hk : OkG c h o s y
  case neg =>
    rw [decide_eq_false hk] at hR ⊢
    simp (disch := omega) only [go_sem, hw, hs, w1, w2, s3, s4, simprocAttr, passK_shut CxP33, QK.use hR]
  rw [decide_eq_true hk] at hR ⊢
  by_cases hj : (J.length : Int) = c
  case neg =>
    rw [decide_eq_false hj]
    simp (disch := omega) only [go_sem, hw, hs, w1, w2, s3, s4, simprocAttr, passK_shut CxP33, QK.use hR]
  rw [decide_eq_true hj, Bool.true_and, Bool.true_and]
  simp (disch := omega) only [go_sem, hw, hs, w1, w2, s3, s4, simprocAttr, passK_shut CxP33, QK.use hR]
  rw [loop_norm (l := [2, 3, 5]) rfl]
  simp (disch := omega) only [go_sem, simprocAttr]
  refine rsh_caches hW T.sys T.caches T.cok T.notes T.few J.length 0 (by omega) (fun q => ?_) fun q => ?_
  · rw [q]
    simp (disch := omega) only [go_sem, simprocAttr]
  rw [q, Bool.true_and]
  simp (disch := omega) only [go_sem, simprocAttr]
  rw [loop_norm (l := [2, 3, 6]) rfl]
  simp (disch := omega) only [go_sem, simprocAttr]
  refine rsh_net hk hW T.sys T.nok (by have := T.some; omega) net [] rfl (fun q => ?_) fun q => ?_
  · rw [q]
    simp (disch := omega) only [go_sem, simprocAttr]
  rw [q, Bool.true_and]
  simp (disch := omega) only [go_sem, simprocAttr]
  rw [loop_norm (l := [2, 3, 7]) rfl]
  simp (disch := omega) only [go_sem, simprocAttr]
  have ho : 0 ≤ 5 / o := Int.ediv_nonneg (by omega) (by have := hk; unfold OkG at this; omega)
  refine rsh_homes hk hW T.sys T.homes T.masks (5 / o + 1).toNat 0 _ (by omega) rfl rfl (fun q H => ?_) fun q H => ?_
  all_goals
    rw [q]
    simp (disch := omega) only [go_sem, simprocAttr]
end Go.Proofs.YtnhknhniemfnjaaGreatDoor.Ev
namespace Go.Proofs.YtnhknhniemfnjaaGreatDoor.Ev
open Go Go.RowKit
set_option maxRecDepth 100000
def lineB (i : Nat) (d : Dr) (L : Nat → Ln) (net : List Mg) (n k : Nat) : Bool :=
  if i = 1 then swmrL L k else if i = 2 then freshL d L k else if i = 3 then notedL d L k else pairedL d L net n k
def LineEv (ws ss : List A) (i n : Nat) (b : Bool) : Prop := EvQ Cx (if i = 1 then 24 else if i = 2 then 25 else if i = 3 then 26 else 27) [.agg ws, .agg ss, i64 n] (bo b)
set_option maxHeartbeats 16000000 in
theorem rholds_loop {ws ss : List A} {c h o s y : Int} {net : List Mg} (hk : OkG c h o s y) (hW : WorldR ws c h o s y) (hS : SysR ss net) {i : Nat} (hi : i = 1 ∨ i = 2 ∨ i = 3 ∨ i = 4) {B : Nat → Bool} (hB : ∀ n : Nat, (n : Int) < 5 / o + 1 → LineEv ws ss i n (B n)) {KK : List It} {Q : Ex → St → Prop} :
    ∀ (e n : Nat), (n + e : Int) = 5 / o + 1 → (allN B n e = false → UnwK Cx .back KK ⟨[(6, bo false)], [some ⟨44, ws, true⟩, some ⟨69, ss, true⟩]⟩ Q) →
      (allN B n e = true → UnwK Cx (.out 0) KK ⟨[(16, bo false), (15, i64 (5 / o + 1)), (14, encG c h o s y), (13, .ptr 0 10), (12, i64 (5 / o + 1)), (2, i64 i), (3, .ptr 0 0), (4, .ptr 1 0), (7, i64 (5 / o + 1))], [some ⟨44, ws, true⟩, some ⟨69, ss, true⟩]⟩ Q) →
      RunK Cx (.code (.loop m14_l0) :: KK) ⟨[(2, i64 i), (3, .ptr 0 0), (4, .ptr 1 0), (7, i64 n)], [some ⟨44, ws, true⟩, some ⟨69, ss, true⟩]⟩ Q := by
  obtain ⟨tw, hw⟩ := hW.geo
  have w1 := hW.len
  have s3 := hS.len
  have hwt : List.take 585 ws = ws := List.take_of_length_le (by omega)
  have hst : List.take 69 ss = ss := List.take_of_length_le (by omega)
  have hwf := hW.fz
  have hsf := hS.fz
  have hwh := hW.shut
  have hsh := hS.shut
  have hL := rlines_yes c h o s y hk
  obtain ⟨c1, c2, h1, h2, o1, o2, s1, s2, y1, y2⟩ := id hk
  have lo : 5 / o + 1 ≤ 6 := by
    rcases (show o = 1 ∨ o = 2 ∨ o = 3 ∨ o = 4 by omega) with rfl | rfl | rfl | rfl <;> decide
  intro e
  induction e with
  | zero =>
    intro n he _ hT
    have hn : (n : Int) = 5 / o + 1 := by omega
    have := hT rfl
    rw [← hn] at this
    rw [← hn] at hL
    rw [runK_loop]
    simp (disch := omega) only [go_sem, hw, w1, Int.lt_irrefl, simprocAttr, passK_shut CxP23, QK.use hL]
    exact this
  | succ e ih =>
    intro n he hF hT
    have hlt : (n : Int) < 5 / o + 1 := by omega
    have hn6 : n < 6 := by omega
    have hV := hB n hlt
    simp only [allN] at hF hT
    have := fun h1 h2 => ih (n + 1) (by omega) h1 h2
    clear ih
    unfold LineEv at hV
    rw [runK_loop]
    rcases hi with rfl | rfl | rfl | rfl
    all_goals simp only [reduceIte, Nat.reduceEqDiff] at hV
    all_goals cases hb : B n <;> rw [hb] at hV hF hT
    all_goals simp (disch := omega) only [go_sem, hw, w1, s3, hwt, hst, hwf, hsf, hwh, hsh, hlt, simprocAttr, passK_shut CxP23, QK.use hL, passK_shut CxP24, passK_shut CxP25, passK_shut CxP26, passK_shut CxP27, QK.use hV]
    all_goals try exact hF rfl
    all_goals rw [loop_norm (l := [2, 3, 4, 7]) rfl]
    all_goals simp (disch := omega) only [go_sem, simprocAttr]
    all_goals simpa only [i64, Int.natCast_add, Int.natCast_one, Int.cast_ofNat_Int] using this hF hT
end Go.Proofs.YtnhknhniemfnjaaGreatDoor.Ev
namespace Go.Proofs.YtnhknhniemfnjaaGreatDoor.Ev
open Go Go.RowKit
theorem allN_iff (p : Nat → Bool) : ∀ d i, allN p i d = true ↔ ∀ j, i ≤ j → j < i + d → p j = true
  | 0, i => ⟨fun _ j h1 h2 => absurd h2 (by omega), fun _ => rfl⟩
  | d + 1, i => by
    rw [allN, Bool.and_eq_true, allN_iff p d (i + 1)]
    exact ⟨fun h j h1 h2 => if e : j = i then e ▸ h.1 else h.2 j (by omega) (by omega), fun h => ⟨h i (by omega) (by omega), fun j h1 h2 => h j (by omega) (by omega)⟩⟩
theorem allN_zero (p : Nat → Bool) (n : Nat) : allN p 0 n = true ↔ ∀ j, j < n → p j = true := by
  rw [allN_iff]
  exact ⟨fun h j hj => h j (by omega) (by omega), fun h j _ hj => h j (by omega)⟩
def cntL (p : Ln → Bool) (L : Nat → Ln) : Nat → Nat
  | 0 => 0
  | n + 1 => cntL p L n + if p (L n) then 1 else 0
theorem cntL_le (p : Ln → Bool) (L : Nat → Ln) : ∀ n, cntL p L n ≤ n
  | 0 => Nat.le_refl _
  | n + 1 => by
    have := cntL_le p L n
    simp only [cntL]
    split <;> omega
theorem cntL_zero (p : Ln → Bool) (L : Nat → Ln) : ∀ n, cntL p L n = 0 ↔ ∀ j, j < n → p (L j) = false
  | 0 => by simp [cntL]
  | n + 1 => by
    have := cntL_zero p L n
    simp only [cntL, Nat.add_eq_zero_iff, this]
    refine ⟨fun h j hj => ?_, fun h => ⟨fun j hj => h j (by omega), by simp [h n (by omega)]⟩⟩
    by_cases e : j = n
    · subst e
      cases hp : p (L j)
      · rfl
      · simp [hp] at h
    · exact h.1 j (by omega)
theorem cntL_one (p : Ln → Bool) (L : Nat → Ln) : ∀ n, cntL p L n ≤ 1 ↔ ∀ i j, i < n → j < n → p (L i) = true → p (L j) = true → i = j
  | 0 => by simp [cntL]
  | n + 1 => by
    have h1 := cntL_one p L n
    have h0 := cntL_zero p L n
    simp only [cntL]
    cases hp : p (L n)
    · simp only [Bool.false_eq_true, if_false, Nat.add_zero, h1]
      refine ⟨fun h i j hi hj a b => ?_, fun h i j hi hj => h i j (by omega) (by omega)⟩
      have : i ≠ n := fun e => by rw [e, hp] at a; cases a
      have : j ≠ n := fun e => by rw [e, hp] at b; cases b
      exact h i j (by omega) (by omega) a b
    · simp only [if_true]
      rw [show cntL p L n + 1 ≤ 1 ↔ cntL p L n = 0 by omega, h0]
      refine ⟨fun h i j hi hj a b => ?_, fun h j hj => ?_⟩
      · have e1 : i = n := Decidable.byContradiction fun e => by have := h i (by omega); rw [this] at a; cases a
        have e2 : j = n := Decidable.byContradiction fun e => by have := h j (by omega); rw [this] at b; cases b
        omega
      · cases hq : p (L j)
        · rfl
        · have := h j n (by omega) (by omega) hq hp
          omega
def excB (x : Ln) : Bool := decide (x.state = 2) || decide (x.state = 4)
def pswB (L : Nat → Ln) (n : Nat) : Bool := decide (cntL (fun x => ownB x.state) L n ≤ 1) && (decide (cntL excB L n = 0) || decide (cntL (fun x => cpyB x.state) L n = 1))
theorem exc_own {x : Ln} (h : excB x = true) : ownB x.state = true := by
  simp only [excB, Bool.or_eq_true, decide_eq_true_eq] at h
  simp only [ownB, decide_eq_true_eq]
  omega
theorem own_cpy {x : Ln} (h : ownB x.state = true) : cpyB x.state = true := by simp [cpyB, h]
theorem sw_iff (L : Nat → Ln) (n : Nat) : swmrL L n = true ↔ ∀ a b, a < n → b < n → a ≠ b → ¬ (excB (L a) = true ∧ cpyB (L b).state = true) ∧ ¬ (ownB (L a).state = true ∧ ownB (L b).state = true) := by
  unfold swmrL
  rw [allN_zero]
  refine forall_congr' fun a => ?_
  constructor
  · intro h b ha hb hne
    have := (allN_zero _ _).1 (h ha) b hb
    simp only [swB, decide_eq_false hne, Bool.false_or, badS, Bool.not_eq_true', Bool.or_eq_false_iff, Bool.and_eq_false_iff, decide_eq_false_iff_not] at this
    refine ⟨fun ⟨e1, e2⟩ => ?_, fun ⟨e1, e2⟩ => ?_⟩
    · simp only [excB, Bool.or_eq_true, decide_eq_true_eq] at e1
      rcases this.1 with h | h
      · exact h e1
      · rw [h] at e2; cases e2
    · rcases this.2 with h | h
      · rw [h] at e1; cases e1
      · rw [h] at e2; cases e2
  · intro h ha
    refine (allN_zero _ _).2 fun b hb => ?_
    by_cases e : a = b
    · simp [swB, e]
    · have := h b ha hb e
      simp only [swB, decide_eq_false e, Bool.false_or, badS, Bool.not_eq_true', Bool.or_eq_false_iff, Bool.and_eq_false_iff, decide_eq_false_iff_not]
      simp only [excB, Bool.or_eq_true, decide_eq_true_eq, not_and, Bool.not_eq_true] at this
      refine ⟨?_, ?_⟩
      · by_cases e1 : (L a).state = 2 ∨ (L a).state = 4
        · exact .inr (this.1 e1)
        · exact .inl e1
      · cases ho : ownB (L a).state
        · exact .inl rfl
        · exact .inr (this.2 ho)
theorem psw_same (L : Nat → Ln) (n : Nat) : pswB L n = swmrL L n := by
  rw [Bool.eq_iff_iff, sw_iff]
  simp only [pswB, Bool.and_eq_true, Bool.or_eq_true, decide_eq_true_eq]
  rw [cntL_one, cntL_zero]
  constructor
  · rintro ⟨h1, h2⟩ a b ha hb hne
    refine ⟨fun ⟨e1, e2⟩ => ?_, fun ⟨e1, e2⟩ => hne (h1 a b ha hb e1 e2)⟩
    rcases h2 with h2 | h2
    · rw [h2 a ha] at e1; cases e1
    · exact hne ((cntL_one (fun x => cpyB x.state) L n).1 (by omega) a b ha hb (own_cpy (exc_own e1)) e2)
  · intro h
    refine ⟨fun i j hi hj a b => Decidable.byContradiction fun e => (h i j hi hj e).2 ⟨a, b⟩, ?_⟩
    by_cases e : ∀ j, j < n → excB (L j) = false
    · exact .inl e
    · refine .inr ?_
      obtain ⟨a, ha⟩ := Classical.not_forall.1 e
      have hn : a < n := Decidable.byContradiction fun h => ha fun h' => absurd h' h
      have hx : excB (L a) = true := by
        cases hx : excB (L a)
        · exact absurd (fun _ => hx) ha
        · rfl
      have h1 : cntL (fun x => cpyB x.state) L n ≤ 1 := (cntL_one _ L n).2 fun i j hi hj p q => by
        have ei : i = a := Decidable.byContradiction fun e => (h a i hn hi (Ne.symm e)).1 ⟨hx, p⟩
        have ej : j = a := Decidable.byContradiction fun e => (h a j hn hj (Ne.symm e)).1 ⟨hx, q⟩
        rw [ei, ej]
      have h0 : cntL (fun x => cpyB x.state) L n ≠ 0 := fun h0 => by
        have := (cntL_zero _ L n).1 h0 a hn
        simp only [own_cpy (exc_own hx)] at this
        cases this
      omega
def pnB (d : Dr) (L : Nat → Ln) (n i : Nat) : Bool :=
  !(cpyB (L i).state && (decide (d.state = 0) || (decide (d.state = 2) && !decide (d.owner = i) || (ownB (L i).state && !decide (d.owner = i) || !ownB (L i).state && !toldD d n i))))
def pnD (d : Dr) (L : Nat → Ln) : Bool := if d.state ≤ 1 then decide (d.owner = 255) else !decide (d.owner = 255) && (ownB (L d.owner.toNat).state || decide ((L d.owner.toNat).state = 10))
def pnotedL (d : Dr) (L : Nat → Ln) (n : Nat) : Bool := decide (d.wait ≠ 0) || (pnD d L && allN (pnB d L n) 0 n)
theorem own_not10 {s : Int} (h : s = 10) : cpyB s = false := by subst h; decide
theorem rnD_lo {d : Dr} (hs : d.state ≤ 1) : rnD d = decide (d.owner = 255) := by
  rw [Bool.eq_iff_iff]
  simp only [rnD, Bool.not_eq_true', decide_eq_false_iff_not, decide_eq_true_eq]
  omega
theorem rnD_hi {d : Dr} (hs : ¬ d.state ≤ 1) : rnD d = !decide (d.owner = 255) := by
  rw [Bool.eq_iff_iff]
  simp only [rnD, Bool.not_eq_true', decide_eq_false_iff_not]
  omega
theorem pnoted_same {d : Dr} {L : Nat → Ln} {n : Nat} (hn : n ≤ 4) (dk : d.Ok) (hr : d.Right n) : pnotedL d L n = notedL d L n := by
  unfold pnotedL notedL
  congr 1
  rw [Bool.eq_iff_iff, Bool.and_eq_true, Bool.and_eq_true, allN_zero, allN_zero]
  have ho := hr.owner
  have hk := dk.owner
  by_cases hs : d.state ≤ 1
  · rw [rnD_lo hs]
    simp only [pnD, hs, if_true, decide_eq_true_eq]
    by_cases h255 : d.owner = 255
    · refine and_congr Iff.rfl (forall_congr' fun j => ⟨fun h hj => ?_, fun h hj => ?_⟩)
      all_goals
        have := h hj
        have e1 : decide (d.owner = (j : Int)) = false := decide_eq_false (by omega)
        have e2 : decide (d.state = 2) = false := decide_eq_false (by omega)
        simp only [pnB, rnB, e1, e2] at *
        have hoc := fun h => own_cpy (x := L j) h
        cases ow : ownB (L j).state <;> cases cp : cpyB (L j).state <;> cases td : toldD d n j <;> cases s0 : decide (d.state = 0) <;> simp_all
    · refine ⟨fun h => absurd h.1 h255, fun h => absurd h.1 h255⟩
  · have e1 : decide (d.state = 0) = false := decide_eq_false (by have := dk.state; omega)
    rw [rnD_hi hs]
    simp only [pnD, hs, if_false, Bool.not_eq_true', decide_eq_false_iff_not, Bool.and_eq_true, Bool.or_eq_true, decide_eq_true_eq]
    by_cases h255 : d.owner = 255
    · refine ⟨fun h => absurd h255 h.1.1, fun h => absurd h255 h.1⟩
    · have hlt : d.owner < n := by omega
      have hown : ((d.owner.toNat : Nat) : Int) = d.owner := by omega
      refine ⟨fun h => ⟨h255, fun j hj => ?_⟩, fun h => ⟨⟨h255, ?_⟩, fun j hj => ?_⟩⟩
      · have hB := h.2 j hj
        have hO := h.1.2
        by_cases e2 : d.owner = (j : Int)
        · have ej : d.owner.toNat = j := by omega
          rw [ej] at hO
          have e3 : decide (d.owner = (j : Int)) = true := decide_eq_true e2
          simp only [pnB, rnB, e1, e3] at *
          rcases hO with hO | hO
          · simp [hO]
          · have := own_not10 hO
            have h2 : ownB (L j).state = false := by
              cases h2 : ownB (L j).state
              · rfl
              · rw [own_cpy h2] at this; cases this
            simp [hO] at *
        · have e3 : decide (d.owner = (j : Int)) = false := decide_eq_false e2
          have hoc := fun h => own_cpy (x := L j) h
          simp only [pnB, rnB, e1, e3] at *
          cases ow : ownB (L j).state <;> cases cp : cpyB (L j).state <;> cases td : toldD d n j <;> cases s0 : decide (d.state = 2) <;> simp_all
      · have hB := h.2 d.owner.toNat (by omega)
        simp only [rnB, hown, decide_true, Bool.true_and, Bool.and_eq_true, Bool.not_eq_true', Bool.and_eq_false_iff, Bool.not_eq_false', decide_eq_true_eq] at hB
        exact hB.1
      · have hB := h.2 j hj
        have hoc := fun h => own_cpy (x := L j) h
        by_cases e2 : d.owner = (j : Int)
        · have e3 : decide (d.owner = (j : Int)) = true := decide_eq_true e2
          simp only [pnB, rnB, e1, e3] at *
          have h10 := fun h => own_not10 (s := (L j).state) h
          by_cases s10 : (L j).state = 10
          · simp [h10 s10]
          · cases ow : ownB (L j).state <;> cases cp : cpyB (L j).state <;> simp_all
        · have e3 : decide (d.owner = (j : Int)) = false := decide_eq_false e2
          simp only [pnB, rnB, e1, e3] at *
          cases ow : ownB (L j).state <;> cases cp : cpyB (L j).state <;> cases td : toldD d n j <;> cases s0 : decide (d.state = 2) <;> simp_all
structure W4 where
  a : Int
  b : Int
  c : Int
  d : Int
def eqW (x y : W4) : Bool := x.a == y.a && (x.b == y.b && (x.c == y.c && x.d == y.d))
def dat (x : Ln) : W4 := ⟨x.d0, x.d1, x.d2, x.d3⟩
def datH (x : Dr) : W4 := ⟨x.d0, x.d1, x.d2, x.d3⟩
theorem eqW_iff {x y : W4} : eqW x y = true ↔ x = y := by
  cases x; cases y
  simp [eqW]
theorem sameD_iff {x y : Ln} : sameD x y = true ↔ dat x = dat y := eqW_iff (x := dat x) (y := dat y)
theorem sameH_iff {d : Dr} {y : Ln} : sameH d y = true ↔ datH d = dat y := eqW_iff (x := datH d) (y := dat y)
def cpL (L : Nat → Ln) : Nat → List W4
  | 0 => []
  | n + 1 => cpL L n ++ if cpyB (L n).state then [dat (L n)] else []
theorem cpL_len (L : Nat → Ln) : ∀ n, (cpL L n).length ≤ n
  | 0 => Nat.le_refl _
  | n + 1 => by
    have := cpL_len L n
    simp only [cpL, List.length_append]
    split <;> simp <;> omega
theorem mem_cpL {L : Nat → Ln} {w : W4} : ∀ {n : Nat}, w ∈ cpL L n ↔ ∃ j, j < n ∧ cpyB (L j).state = true ∧ w = dat (L j)
  | 0 => by simp [cpL]
  | n + 1 => by
    rw [cpL, List.mem_append, mem_cpL]
    constructor
    · rintro (⟨j, h1, h2, h3⟩ | h)
      · exact ⟨j, by omega, h2, h3⟩
      · cases e : cpyB (L n).state
        · simp [e] at h
        · simp [e] at h
          exact ⟨n, by omega, e, h⟩
    · rintro ⟨j, h1, h2, h3⟩
      by_cases e : j = n
      · subst e
        exact .inr (by simp [h2, h3])
      · exact .inl ⟨j, by omega, h2, h3⟩
def exW (d : Dr) (L : Nat → Ln) : List W4 := if d.wait = 0 then (if d.owner = 255 then [datH d] else if (L d.owner.toNat).state = 10 then [dat (L d.owner.toNat)] else []) else []
def pfreshL (d : Dr) (L : Nat → Ln) (n : Nat) : Bool := match cpL L n with
  | [] => true
  | w :: l => (w :: l ++ exW d L).all fun x => eqW x w
theorem pfresh_same {d : Dr} {L : Nat → Ln} {n : Nat} (hn : n ≤ 4) (dk : d.Ok) (hr : d.Right n) : pfreshL d L n = freshL d L n := by
  have ho := hr.owner
  have hk := dk.owner
  rw [Bool.eq_iff_iff]
  unfold freshL
  rw [allN_zero]
  have fr : ∀ a, frA d L n a = true ↔ (cpyB (L a).state = true → (∀ b, b < n → heldB d (L b) b = true → dat (L b) = dat (L a)) ∧ (d.wait = 0 → d.owner = 255 → datH d = dat (L a))) := fun a => by
    simp only [frA, Bool.or_eq_true, Bool.and_eq_true, Bool.not_eq_true', allN_zero, frB, Bool.and_eq_false_iff, Bool.not_eq_false', decide_eq_false_iff_not, sameD_iff, sameH_iff]
    cases cpyB (L a).state
    · simp
    · simp only [Bool.true_eq_false, false_or, forall_const]
      refine and_congr (forall_congr' fun b => forall_congr' fun _ => ?_) ?_
      · cases heldB d (L b) b <;> simp
      · by_cases e1 : d.wait = 0 <;> by_cases e2 : d.owner = 255 <;> simp [e1, e2]
  simp only [fr]
  unfold pfreshL
  cases hc : cpL L n with
  | nil =>
    refine ⟨fun _ a ha hcp => ?_, fun _ => rfl⟩
    have : dat (L a) ∈ cpL L n := mem_cpL.2 ⟨a, ha, hcp, rfl⟩
    rw [hc] at this
    cases this
  | cons w l =>
    simp only [← hc]
    rw [List.all_eq_true]
    simp only [eqW_iff]
    obtain ⟨a0, ha0, hcp0, hw⟩ := mem_cpL.1 (show w ∈ cpL L n by rw [hc]; exact List.mem_cons_self ..)
    constructor
    · intro h a ha hcp
      have h1 : ∀ j, j < n → cpyB (L j).state = true → dat (L j) = w := fun j hj e => h _ (List.mem_append_left _ (mem_cpL.2 ⟨j, hj, e, rfl⟩))
      refine ⟨fun b hb hh => ?_, fun e1 e2 => ?_⟩
      · rw [h1 a ha hcp]
        cases hcb : cpyB (L b).state
        · simp only [heldB, hcb, Bool.false_or, decide_eq_true_eq] at hh
          refine h _ (List.mem_append_right _ ?_)
          have eb : d.owner.toNat = b := by omega
          have e255 : ¬ d.owner = 255 := by omega
          simp [exW, hh.1, e255, eb, hh.2.2]
        · exact h1 b hb hcb
      · rw [h1 a ha hcp]
        exact h _ (List.mem_append_right _ (by simp [exW, e1, e2]))
    · intro h x hx
      rw [hw]
      obtain ⟨f1, f2⟩ := h a0 ha0 hcp0
      rcases List.mem_append.1 hx with hx | hx
      · obtain ⟨j, hj, e1, e2⟩ := mem_cpL.1 hx
        rw [e2]
        exact f1 j hj (by simp [heldB, e1])
      · simp only [exW] at hx
        split at hx
        · rename_i e1
          split at hx
          · rename_i e2
            simp only [List.mem_singleton] at hx
            rw [hx]
            exact f2 e1 e2
          · rename_i e2
            split at hx
            · rename_i e3
              simp only [List.mem_singleton] at hx
              rw [hx]
              refine f1 _ (by omega) ?_
              simp only [heldB, e1, e3, Bool.or_eq_true, decide_eq_true_eq, true_and, and_true]
              exact .inr (by omega)
            · cases hx
        · cases hx
def ofL (n : Int) (net : List Mg) : List Mg := net.filter fun m => decide (m.line = n)
theorem cntM_of (p : Mg → Bool) (n : Int) : ∀ l, cntM p (ofL n l) = cntM (fun m => decide (m.line = n) && p m) l
  | [] => rfl
  | m :: l => by
    have := cntM_of p n l
    unfold ofL at this ⊢
    by_cases e : m.line = n
    · simp [List.filter_cons, e, cntM, this]
    · simp [List.filter_cons, e, cntM, this]
def ackP (c : Int) (m : Mg) : Bool := decide ((m.kind = 10 ∨ m.kind = 11) ∧ m.dst = c) || decide (m.kind = 7 ∧ m.asker = c)
def pAckF (c a : Int) (l : List Mg) : Int := l.foldl (fun a m => if ackP c m then IntKind.i64.wrap (a + m.acks) else a) a
theorem pAckF_snoc (c a : Int) (l : List Mg) (m : Mg) : pAckF c a (l ++ [m]) = if ackP c m then IntKind.i64.wrap (pAckF c a l + m.acks) else pAckF c a l := by
  unfold pAckF
  rw [List.foldl_append]
  rfl
theorem pAckF_of (n c : Int) : ∀ (l : List Mg) (a : Int), pAckF c a (ofL n l) = ackF n c a l
  | [], a => rfl
  | m :: l, a => by
    have := pAckF_of n c l
    have hc : ackF n c a (m :: l) = ackF n c (if ackB n c m then IntKind.i64.wrap (a + m.acks) else a) l := rfl
    rw [hc, ← this]
    by_cases e : m.line = n
    · rw [show ofL n (m :: l) = m :: ofL n l by simp [ofL, e], show ackB n c m = ackP c m by simp [ackB, ackP, e]]
      rfl
    · rw [show ofL n (m :: l) = ofL n l by simp [ofL, e], show ackB n c m = false by simp [ackB, e]]
      rfl
def p8 (c : Int) (m : Mg) : Bool := decide (m.kind = 8) && decide (m.asker = c) || decide (m.kind = 12) && decide (m.dst = c)
def p3 (c : Int) (m : Mg) : Bool := decide (m.kind = 3) && decide (m.src = c) || decide (m.kind = 9) && decide (m.dst = c)
def pSk (k c : Int) (m : Mg) : Bool := decide (m.kind = k) && decide (m.src = c)
def pK (l : List Int) (m : Mg) : Bool := l.any fun k => decide (m.kind = k)
theorem cntM_congr {p q : Mg → Bool} (h : ∀ m, p m = q m) (l : List Mg) : cntM p l = cntM q l := by rw [show p = q from funext h]
theorem cntM_add {p q r : Mg → Bool} (h : ∀ m, (if p m then 1 else 0) + (if q m then 1 else 0) = (if r m then 1 else 0 : Nat)) : ∀ l, cntM p l + cntM q l = cntM r l
  | [] => rfl
  | m :: l => by
    have h1 := cntM_add h l
    have h2 := h m
    simp only [cntM]
    omega
theorem p8_of (n c : Int) (net : List Mg) : cntM (p8 c) (ofL n net) = ct net n 8 3 c + ct net n 12 2 c := by
  rw [cntM_of]
  unfold ct
  refine (cntM_add (fun m => ?_) _).symm
  by_cases e1 : m.line = n <;> by_cases e2 : m.kind = 8 <;> by_cases e3 : m.kind = 12 <;> simp_all [p8, selB]
theorem p3_of (n c : Int) (net : List Mg) : cntM (p3 c) (ofL n net) = ct net n 3 1 c + ct net n 9 2 c := by
  rw [cntM_of]
  unfold ct
  refine (cntM_add (fun m => ?_) _).symm
  by_cases e1 : m.line = n <;> by_cases e2 : m.kind = 3 <;> by_cases e3 : m.kind = 9 <;> simp_all [p3, selB]
theorem pSk_of (n k c : Int) (net : List Mg) : cntM (pSk k c) (ofL n net) = ct net n k 1 c := by
  rw [cntM_of]
  unfold ct
  refine cntM_congr (fun m => ?_) _
  simp [pSk, selB, Bool.and_assoc]
theorem pK_nil (l : List Mg) : cntM (pK []) l = 0 := by
  induction l with
  | nil => rfl
  | cons m l ih => simp only [cntM, ih, pK, List.any_nil]; rfl
theorem pK_cons {n k : Int} {ks : List Int} (h : k ∉ ks) (net : List Mg) : cntM (pK (k :: ks)) (ofL n net) = ck net n k + cntM (pK ks) (ofL n net) := by
  rw [cntM_of, cntM_of]
  unfold ck ct
  refine (cntM_add (fun m => ?_) _).symm
  by_cases e1 : m.line = n <;> by_cases e2 : m.kind = k
  · simp [pK, selB, e1, e2, h]
  · simp [pK, selB, e1, e2]
  · simp [pK, selB, e1]
  · simp [pK, selB, e1]
theorem pK5_of (n : Int) (net : List Mg) : cntM (pK [6, 7, 10, 11, 4]) (ofL n net) = ck net n 6 + ck net n 7 + ck net n 10 + ck net n 11 + ck net n 4 := by
  rw [pK_cons (by decide), pK_cons (by decide), pK_cons (by decide), pK_cons (by decide), pK_cons (by decide), pK_nil]
  omega
theorem pK2_of (n : Int) (net : List Mg) : cntM (pK [6, 5]) (ofL n net) = ck net n 5 + ck net n 6 := by
  rw [pK_cons (by decide), pK_cons (by decide), pK_nil]
  omega
theorem pK1_of (n : Int) (net : List Mg) : cntM (pK [5]) (ofL n net) = ck net n 5 := by
  rw [pK_cons (by decide), pK_nil]
  omega
def pbusy (d : Dr) (x : List Mg) (i : Nat) : Bool := decide (d.wait % 2 = 1) && (decide (d.asker = i) && decide (cntM (pSk 4 i) x = 0))
def packB (l : Ln) (x : List Mg) (i : Nat) : Bool := decide (pAckF i (IntKind.i64.wrap l.need) x = cntM (p8 i) x)
def pputB (l : Ln) (x : List Mg) (i : Nat) : Bool := decide (b2i (decide (l.state = 10 ∨ l.state = 11)) = cntM (p3 i) x)
def pgetB (d : Dr) (l : Ln) (x : List Mg) (i : Nat) : Bool :=
  !(decide (l.state = 9) && !pbusy d x i) && (decide ((cntM (pSk 1 i) x : Int) = b2i (decide (l.state = 5) && !pbusy d x i)) && decide ((cntM (pSk 2 i) x : Int) = b2i (decide (l.state = 6 ∨ l.state = 7 ∨ l.state = 8) && !pbusy d x i)))
def ppB (d : Dr) (L : Nat → Ln) (x : List Mg) (i : Nat) : Bool := packB (L i) x i && (pputB (L i) x i && pgetB d (L i) x i)
def ppEnd (d : Dr) (x : List Mg) (has : Int) : Bool :=
  decide ((cntM (pK [6, 7, 10, 11, 4]) x + has : Int) = b2i (decide (d.wait % 2 = 1))) &&
  (if d.wait / 2 = 1 then decide ((cntM (pK [6, 5]) x : Int) = 1) else decide ((cntM (pK [5]) x : Int) = 0))
def ppairedL (d : Dr) (L : Nat → Ln) (x : List Mg) (k : Nat) : Bool := allN (ppB d L x) 0 k && ppEnd d x (hasN L k)
theorem ppB_same (d : Dr) (L : Nat → Ln) (net : List Mg) (n : Int) (i : Nat) : ppB d L (ofL n net) i = rpB d L net n i := by
  have hb : pbusy d (ofL n net) i = busyB d net n i := by
    simp only [pbusy, busyB, pSk_of, Int.natCast_eq_zero, Bool.and_assoc]
  unfold ppB packB pputB pgetB rpB
  simp only [hb, pAckF_of, p8_of, p3_of, pSk_of, Int.natCast_add]
  generalize busyB d net n i = u
  rw [Bool.eq_iff_iff]
  simp only [Bool.and_eq_true, decide_eq_true_eq]
  constructor
  · rintro ⟨h1, h2, h3, h4, h5⟩
    exact ⟨h1, h2.symm, h4, h5, h3⟩
  · rintro ⟨h1, h2, h3, h4, h5⟩
    exact ⟨h1, h2.symm, h5, h3, h4⟩
theorem ppaired_same (d : Dr) (L : Nat → Ln) (net : List Mg) (n : Int) (k : Nat) : ppairedL d L (ofL n net) k = pairedL d L net n k := by
  unfold ppairedL pairedL
  rw [show ppB d L (ofL n net) = rpB d L net n from funext fun i => ppB_same d L net n i]
  unfold ppEnd rpEnd
  simp only [pK5_of, pK2_of, pK1_of, Int.natCast_add]
def okS (o s : Int) (i : Nat) (x : Ln) : Bool := decide (x.state < 12) && (decide (x.line < 5 / o + 1) && decide (x.line % s = i))
def chk (o s : Int) : List (Nat × Ln) → Nat → Bool
  | [], _ => true
  | p :: r, seen => if p.2.state = 0 then chk o s r seen else okS o s p.1 p.2 && (!seen.testBit p.2.line.toNat && chk o s r (seen ||| 2 ^ p.2.line.toNat))
def rowS (W : Nat → Nat → Ln) (i : Nat) : Nat → Nat → List (Nat × Ln)
  | _, 0 => []
  | j, d + 1 => (i, W i j) :: rowS W i (j + 1) d
def allS (W : Nat → Nat → Ln) (y : Nat) : Nat → Nat → List (Nat × Ln)
  | _, 0 => []
  | i, e + 1 => rowS W i 0 y ++ allS W y (i + 1) e
def Apart (p q : Nat × Ln) : Prop := p.2.state ≠ 0 → q.2.state ≠ 0 → p.2.line ≠ q.2.line
theorem or_bit (seen l k : Nat) : (seen ||| 2 ^ l).testBit k = (seen.testBit k || decide (l = k)) := by
  rw [Nat.testBit_or, Nat.testBit_two_pow]
theorem chk_iff (o s : Int) : ∀ (S : List (Nat × Ln)) (seen : Nat), (∀ p ∈ S, 0 ≤ p.2.line) → (chk o s S seen = true ↔ (∀ p ∈ S, p.2.state ≠ 0 → okS o s p.1 p.2 = true ∧ seen.testBit p.2.line.toNat = false) ∧ S.Pairwise Apart)
  | [], seen, _ => by simp [chk]
  | p :: r, seen, h => by
    have hp := h p (List.mem_cons_self ..)
    have hr := fun q hq => h q (List.mem_cons_of_mem _ hq)
    rw [List.pairwise_cons]
    simp only [chk]
    by_cases e : p.2.state = 0
    · rw [if_pos e, chk_iff o s r seen hr]
      constructor
      · rintro ⟨h1, h2⟩
        refine ⟨fun q hq => ?_, fun q _ e' => absurd e e', h2⟩
        rcases List.mem_cons.1 hq with rfl | hq
        · exact fun e' => absurd e e'
        · exact h1 q hq
      · rintro ⟨h1, -, h2⟩
        exact ⟨fun q hq => h1 q (List.mem_cons_of_mem _ hq), h2⟩
    · rw [if_neg e, Bool.and_eq_true, Bool.and_eq_true, Bool.not_eq_true', chk_iff o s r _ hr]
      simp only [or_bit, Bool.or_eq_false_iff, decide_eq_false_iff_not]
      constructor
      · rintro ⟨h1, h2, h3, h4⟩
        refine ⟨fun q hq hs => ?_, fun q hq _ hs hl => (h3 q hq hs).2.2 (by rw [hl]), h4⟩
        rcases List.mem_cons.1 hq with rfl | hq
        · exact ⟨h1, h2⟩
        · exact ⟨(h3 q hq hs).1, (h3 q hq hs).2.1⟩
      · rintro ⟨h1, h2, h3⟩
        obtain ⟨a1, a2⟩ := h1 p (List.mem_cons_self ..) e
        refine ⟨a1, a2, fun q hq hs => ?_, h3⟩
        obtain ⟨b1, b2⟩ := h1 q (List.mem_cons_of_mem _ hq) hs
        refine ⟨b1, b2, fun hl => h2 q hq e hs ?_⟩
        have := hr q hq
        omega
theorem mem_rowS {W : Nat → Nat → Ln} {i : Nat} {p : Nat × Ln} : ∀ {d j : Nat}, p ∈ rowS W i j d ↔ ∃ k, j ≤ k ∧ k < j + d ∧ p = (i, W i k)
  | 0, j => by
    simp only [rowS, List.not_mem_nil, false_iff]
    rintro ⟨k, h1, h2, -⟩
    omega
  | d + 1, j => by
    rw [rowS, List.mem_cons, mem_rowS]
    constructor
    · rintro (rfl | ⟨k, h1, h2, h3⟩)
      · exact ⟨j, by omega, by omega, rfl⟩
      · exact ⟨k, by omega, by omega, h3⟩
    · rintro ⟨k, h1, h2, h3⟩
      by_cases e : k = j
      · exact .inl (by rw [h3, e])
      · exact .inr ⟨k, by omega, by omega, h3⟩
theorem mem_allS {W : Nat → Nat → Ln} {y : Nat} {p : Nat × Ln} : ∀ {e i : Nat}, p ∈ allS W y i e ↔ ∃ a k, i ≤ a ∧ a < i + e ∧ k < y ∧ p = (a, W a k)
  | 0, i => by
    simp only [allS, List.not_mem_nil, false_iff]
    rintro ⟨a, k, h1, h2, -⟩
    omega
  | e + 1, i => by
    rw [allS, List.mem_append, mem_rowS, mem_allS]
    constructor
    · rintro (⟨k, h1, h2, h3⟩ | ⟨a, k, h1, h2, h3, h4⟩)
      · exact ⟨i, k, by omega, by omega, by omega, h3⟩
      · exact ⟨a, k, by omega, by omega, h3, h4⟩
    · rintro ⟨a, k, h1, h2, h3, h4⟩
      by_cases ea : a = i
      · exact .inl ⟨k, by omega, by omega, by rw [h4, ea]⟩
      · exact .inr ⟨a, k, by omega, by omega, h3, h4⟩
theorem pair_rowS {W : Nat → Nat → Ln} {i : Nat} : ∀ {d j : Nat}, (rowS W i j d).Pairwise Apart ↔ ∀ a b, j ≤ a → a < b → b < j + d → Apart (i, W i a) (i, W i b)
  | 0, j => by
    simp only [rowS, List.Pairwise.nil, true_iff]
    intro a b h1 h2 h3
    omega
  | d + 1, j => by
    rw [rowS, List.pairwise_cons, pair_rowS]
    constructor
    · rintro ⟨h1, h2⟩ a b ha hab hb
      by_cases e : a = j
      · subst e
        exact h1 _ (mem_rowS.2 ⟨b, by omega, by omega, rfl⟩)
      · exact h2 a b (by omega) hab (by omega)
    · intro h
      refine ⟨fun q hq => ?_, fun a b h1 h2 h3 => h a b (by omega) h2 (by omega)⟩
      obtain ⟨k, h1, h2, rfl⟩ := mem_rowS.1 hq
      exact h j k (by omega) (by omega) (by omega)
theorem pair_row {W : Nat → Nat → Ln} {y : Nat} : ∀ {e i : Nat}, (allS W y i e).Pairwise Apart → ∀ a, i ≤ a → a < i + e → (rowS W a 0 y).Pairwise Apart
  | 0, i, _, a, h1, h2 => by omega
  | e + 1, i, h, a, h1, h2 => by
    rw [allS, List.pairwise_append] at h
    by_cases ea : a = i
    · rw [ea]; exact h.1
    · exact pair_row h.2.1 a (by omega) (by omega)
theorem pair_allS {o s : Int} {W : Nat → Nat → Ln} {y : Nat} : ∀ {e i : Nat}, (∀ a, i ≤ a → a < i + e → (rowS W a 0 y).Pairwise Apart) → (∀ a k, i ≤ a → a < i + e → k < y → (W a k).state ≠ 0 → (W a k).line % s = a) → (allS W y i e).Pairwise Apart
  | 0, i, _, _ => List.Pairwise.nil
  | e + 1, i, h, hl => by
    rw [allS, List.pairwise_append]
    refine ⟨h i (by omega) (by omega), pair_allS (o := o) (fun a h1 h2 => h a (by omega) (by omega)) (fun a k h1 h2 => hl a k (by omega) (by omega)), fun p hp q hq e1 e2 e3 => ?_⟩
    obtain ⟨k, k1, k2, rfl⟩ := mem_rowS.1 hp
    obtain ⟨a, k', a1, a2, k3, rfl⟩ := mem_allS.1 hq
    have f1 := hl i k (by omega) (by omega) (by omega) e1
    have f2 := hl a k' (by omega) (by omega) k3 e2
    simp only at e3
    rw [e3, f2] at f1
    omega
theorem findR_iff {W : Nat → Ln} {l : Int} : ∀ {d w j : Nat}, findR W l w d = some j ↔ w ≤ j ∧ j < w + d ∧ hitB (W j) l = true ∧ ∀ k, w ≤ k → k < j → hitB (W k) l = false
  | 0, w, j => by
    simp only [findR, reduceCtorEq, false_iff]
    rintro ⟨h1, h2, -⟩
    omega
  | d + 1, w, j => by
    rw [findR]
    cases h : hitB (W w) l
    · rw [if_neg (by simp), findR_iff]
      constructor
      · rintro ⟨h1, h2, h3, h4⟩
        refine ⟨by omega, by omega, h3, fun k k1 k2 => ?_⟩
        by_cases e : k = w
        · rw [e, h]
        · exact h4 k (by omega) k2
      · rintro ⟨h1, h2, h3, h4⟩
        have : j ≠ w := fun e => by rw [e, h] at h3; cases h3
        exact ⟨by omega, by omega, h3, fun k k1 k2 => h4 k (by omega) k2⟩
    · rw [if_pos rfl]
      constructor
      · intro e
        simp only [Option.some.injEq] at e
        subst e
        exact ⟨by omega, by omega, h, fun k k1 k2 => by omega⟩
      · rintro ⟨h1, h2, h3, h4⟩
        by_cases e : w = j
        · rw [e]
        · have := h4 w (by omega) (by omega)
          rw [h] at this
          cases this
def visit (y : Nat) (W : Nat → Nat → Ln) (i j : Nat) (k : Nat) : Ln := if (k / 4 < i ∨ k / 4 = i ∧ k % 4 < j) ∧ k % 4 < y ∧ (W (k / 4) (k % 4)).state ≠ 0 then noLn else W (k / 4) (k % 4)
def putK (V : Nat → Ln) (k : Nat) (x : Ln) : Nat → Ln := fun k' => if k' = k then x else V k'
theorem visit_zero (y : Nat) (W : Nat → Nat → Ln) : visit y W 0 0 = fun k => W (k / 4) (k % 4) := funext fun k => by
  unfold visit
  rw [if_neg (by omega)]
theorem visit_free {y : Nat} {W : Nat → Nat → Ln} {i j : Nat} (hj : j < 4) (h : (W i j).state = 0) : visit y W i (j + 1) = visit y W i j := funext fun k => by
  unfold visit
  by_cases e : k / 4 = i ∧ k % 4 = j
  · rw [if_neg, if_neg]
    all_goals
      rw [e.1, e.2]
      exact fun h' => h'.2.2 h
  · have : (k / 4 < i ∨ k / 4 = i ∧ k % 4 < j + 1) ↔ (k / 4 < i ∨ k / 4 = i ∧ k % 4 < j) := by omega
    simp only [this]
theorem visit_taken {y : Nat} {W : Nat → Nat → Ln} {i j : Nat} (hj : j < 4) (hy : j < y) (h : (W i j).state ≠ 0) : visit y W i (j + 1) = putK (visit y W i j) (i * 4 + j) noLn := funext fun k => by
  unfold visit putK
  by_cases e : k = i * 4 + j
  · have e1 : k / 4 = i := by omega
    have e2 : k % 4 = j := by omega
    rw [if_pos e, if_pos]
    rw [e1, e2]
    exact ⟨by omega, hy, h⟩
  · have : (k / 4 < i ∨ k / 4 = i ∧ k % 4 < j + 1) ↔ (k / 4 < i ∨ k / 4 = i ∧ k % 4 < j) := by omega
    simp only [this, if_neg e]
theorem visit_at {y : Nat} {W : Nat → Nat → Ln} {i j : Nat} (hj : j < 4) : visit y W i j (i * 4 + j) = W i j := by
  unfold visit
  have e1 : (i * 4 + j) / 4 = i := by omega
  have e2 : (i * 4 + j) % 4 = j := by omega
  rw [if_neg (by omega), e1, e2]
theorem visit_next {y : Nat} {W : Nat → Nat → Ln} {i : Nat} (hy : y ≤ 4) : visit y W i y = visit y W (i + 1) 0 := funext fun k => by
  unfold visit
  by_cases hk : k % 4 < y
  · have : (k / 4 < i ∨ k / 4 = i ∧ k % 4 < y) ↔ (k / 4 < i + 1 ∨ k / 4 = i + 1 ∧ k % 4 < 0) := by omega
    simp only [this]
  · rw [if_neg (fun h => hk h.2.1), if_neg (fun h => hk h.2.1)]
def zeroS (V : Nat → Ln) : Bool := allN (fun k => zeroLn (V k)) 0 16
def pstB (o s : Int) (y : Nat) (W : Nat → Nat → Ln) : Bool := chk o s (allS W y 0 s.toNat) 0 && zeroS (visit y W s.toNat 0)
theorem zero_noLn : zeroLn noLn = true := rfl
theorem pst_same {o s : Int} {y : Nat} {W : Nat → Nat → Ln} (hO : CacheO W) (s1 : 1 ≤ s) (s4 : s ≤ 4) (y4 : y ≤ 4) : pstB o s y W = allN (fun i => allN (slotB o s y W i) 0 4) 0 4 := by
  rw [Bool.eq_iff_iff]
  unfold pstB zeroS
  rw [Bool.and_eq_true, allN_zero, allN_zero]
  rw [chk_iff o s _ 0 (fun p hp => by
    obtain ⟨a, k, a1, a2, a3, rfl⟩ := mem_allS.1 hp
    exact (hO.ok a k (by omega) (by omega)).line.1)]
  have hz : (∀ j, j < 16 → zeroLn (visit y W s.toNat 0 j) = true) ↔ ∀ i j, i < 4 → j < 4 → ((W i j).state = 0 ∨ s ≤ i ∨ (y : Int) ≤ j) → zeroLn (W i j) = true := by
    constructor
    · intro h i j hi hj he
      have := h (i * 4 + j) (by omega)
      unfold visit at this
      have e1 : (i * 4 + j) / 4 = i := by omega
      have e2 : (i * 4 + j) % 4 = j := by omega
      rw [e1, e2, if_neg] at this
      · exact this
      · rintro ⟨h1, h2, h3⟩
        rcases he with he | he | he
        · exact h3 he
        · omega
        · omega
    · intro h k hk
      unfold visit
      split
      · exact zero_noLn
      · rename_i hn
        refine h _ _ (by omega) (by omega) ?_
        by_cases e : (W (k / 4) (k % 4)).state = 0
        · exact .inl e
        · refine .inr ?_
          by_cases e1 : s ≤ ((k / 4 : Nat) : Int)
          · exact .inl e1
          · refine .inr (Int.not_lt.1 fun e2 => hn ⟨by omega, by omega, e⟩)
  rw [hz]
  have hf : ∀ i j, i < 4 → j < y → (W i j).line % s = i → (W i j).state ≠ 0 → (decide (findR (W ((W i j).line % s).toNat) (W i j).line 0 ((y : Int)).toNat = some j) = true ↔ ∀ k, k < j → Apart (i, W i k) (i, W i j)) := by
    intro i j hi hj hl hs
    rw [decide_eq_true_eq, hl, Int.toNat_natCast, Int.toNat_natCast, findR_iff]
    constructor
    · rintro ⟨-, -, -, h⟩ k hk e1 e2 e3
      have := h k (by omega) hk
      simp only [hitB, Bool.and_eq_false_iff, Bool.not_eq_false', decide_eq_true_eq, decide_eq_false_iff_not] at this
      rcases this with h | h
      · exact e1 h
      · exact h e3
    · intro h
      refine ⟨by omega, by omega, by simp [hitB, hs], fun k _ hk => ?_⟩
      have := h k hk
      simp only [hitB, Bool.and_eq_false_iff, Bool.not_eq_false', decide_eq_true_eq, decide_eq_false_iff_not]
      by_cases e : (W i k).state = 0
      · exact .inl e
      · exact .inr (this e hs)
  constructor
  · rintro ⟨⟨h1, h2⟩, h3⟩ i hi
    refine (allN_zero _ _).2 fun j hj => ?_
    unfold slotB
    split
    · rename_i he
      exact h3 i j hi hj he
    · rename_i he
      have e1 : (W i j).state ≠ 0 := fun e => he (.inl e)
      have e2 : i < s.toNat := by omega
      have e3 : j < y := by omega
      have := (h1 _ (mem_allS.2 ⟨i, j, by omega, by omega, e3, rfl⟩) e1).1
      simp only [okS, Bool.and_eq_true, decide_eq_true_eq] at this
      rw [Bool.and_eq_true, Bool.and_eq_true, hf i j hi e3 this.2.2 e1]
      refine ⟨decide_eq_true ⟨this.1, this.2.1⟩, decide_eq_true this.2.2, fun k hk => ?_⟩
      exact pair_rowS.1 (pair_row h2 i (by omega) (by omega)) k j (by omega) hk (by omega)
  · intro h
    have hs : ∀ i j, i < 4 → j < 4 → slotB o s y W i j = true := fun i j hi hj => (allN_zero _ _).1 (h i hi) j hj
    have hk : ∀ i j, i < s.toNat → j < y → (W i j).state ≠ 0 → okS o s i (W i j) = true ∧ ∀ k, k < j → Apart (i, W i k) (i, W i j) := fun i j hi hj e => by
      have := hs i j (by omega) (by omega)
      unfold slotB at this
      rw [if_neg (by rintro (h | h | h) <;> omega), Bool.and_eq_true, Bool.and_eq_true] at this
      obtain ⟨a1, a2, a3⟩ := this
      rw [decide_eq_true_eq] at a1 a2
      refine ⟨by simp [okS, a1.1, a1.2, a2], (hf i j (by omega) hj a2 e).1 a3⟩
    refine ⟨⟨fun p hp e => ?_, ?_⟩, fun i j hi hj he => ?_⟩
    · obtain ⟨a, k, a1, a2, a3, rfl⟩ := mem_allS.1 hp
      exact ⟨(hk a k (by omega) a3 e).1, Nat.zero_testBit _⟩
    · refine pair_allS (o := o) (s := s) (fun a h1 h2 => pair_rowS.2 fun k j _ h4 h5 => ?_) (fun a k h1 h2 h3 e => ?_)
      · intro e1 e2
        exact (hk a j (by omega) (by omega) e2).2 k h4 e1 e2
      · have := (hk a k (by omega) h3 e).1
        simp only [okS, Bool.and_eq_true, decide_eq_true_eq] at this
        exact this.2.2
    · have := hs i j hi hj
      unfold slotB at this
      rwa [if_pos he] at this
end Go.Proofs.YtnhknhniemfnjaaGreatDoor.Ev
namespace Go.Proofs.YtnhknhniemfnjaaGreatDoor.Ev
open Go Go.RowKit
set_option maxRecDepth 100000
theorem slots_ev {c h o s y : Int} : EvQ Cx 85 [encG c h o s y] (.clo 120 [] [.fp [i64 c, i64 h, i64 o, i64 s, i64 y]]) := by
  refine evQ_of CxB85 rfl (by simp [fn85]) ?_
  simp (disch := omega) only [go_sem, simprocAttr]
def encS (V : Nat → Ln) : Nat → List A
  | 0 => []
  | n + 1 => encS V n ++ cL (V n)
theorem encS_len (V : Nat → Ln) : ∀ n, (encS V n).length = n * 8
  | 0 => rfl
  | n + 1 => by
    rw [encS, List.length_append, encS_len V n]
    simp only [cL, List.length_cons, List.length_nil]
    omega
theorem encS_congr {V V' : Nat → Ln} : ∀ {n}, (∀ k, k < n → V k = V' k) → encS V n = encS V' n
  | 0, _ => rfl
  | n + 1, h => by rw [encS, encS, encS_congr fun k hk => h k (by omega), h n (by omega)]
theorem encS_at (V : Nat → Ln) (ns : List A) {k : Nat} : ∀ {n}, k < n → ∃ tl, List.drop (k * 8) (encS V n ++ ns) = cL (V k) ++ tl
  | 0, h => absurd h (Nat.not_lt_zero _)
  | n + 1, h => by
    rw [encS, List.append_assoc]
    by_cases e : k = n
    · subst e
      exact ⟨ns, by rw [List.drop_append_of_le_length (by rw [encS_len]; omega), List.drop_of_length_le (by rw [encS_len]; omega), List.nil_append]⟩
    · obtain ⟨tl, ht⟩ := encS_at V (cL (V n) ++ ns) (k := k) (n := n) (by omega)
      exact ⟨tl, ht⟩
theorem encS_put (V : Nat → Ln) (x : Ln) {k : Nat} : ∀ {n} (ns : List A), k < n → List.take (k * 8) (encS V n ++ ns) ++ cL x ++ List.drop (k * 8 + 8) (encS V n ++ ns) = encS (putK V k x) n ++ ns
  | 0, _, h => absurd h (Nat.not_lt_zero _)
  | n + 1, ns, h => by
    by_cases e : k = n
    · subst e
      have hl := encS_len V k
      have hc : (cL (V k)).length = 8 := rfl
      have hcg : encS (putK V k x) k = encS V k := encS_congr fun j hj => by
        unfold putK
        rw [if_neg (by omega)]
      rw [encS, encS, hcg, show putK V k x k = x by simp [putK], List.append_assoc (encS V k) (cL (V k)) ns]
      rw [show List.take (k * 8) (encS V k ++ (cL (V k) ++ ns)) = encS V k by rw [← hl, List.take_left]]
      rw [show k * 8 + 8 = (encS V k).length + (cL (V k)).length by rw [hl, hc], ← List.drop_drop, List.drop_left, List.drop_left, List.append_assoc]
    · have := encS_put V x (k := k) (n := n) (cL (V n) ++ ns) (by omega)
      rw [encS, encS, List.append_assoc (encS V n) (cL (V n)) ns, this, show putK V k x n = V n by unfold putK; rw [if_neg (by omega)], List.append_assoc]
theorem sh6 : ∀ o : Nat, o < 6 → IntKind.u64.wrap (1 * 2 ^ (min o IntKind.u64.bits)) = ((2 ^ o : Nat) : Int) := by decide +kernel
theorem and6 : ∀ s : Nat, s < 64 → ∀ o : Nat, o < 6 → (IntKind.u64.wrap ((BitVec.ofInt IntKind.u64.bits (s : Int) &&& BitVec.ofInt IntKind.u64.bits ((2 ^ o : Nat) : Int)).toNat : Int) != 0) = s.testBit o := by decide +kernel
theorem or6 : ∀ s : Nat, s < 64 → ∀ o : Nat, o < 6 → IntKind.u64.wrap ((BitVec.ofInt IntKind.u64.bits (s : Int) ||| BitVec.ofInt IntKind.u64.bits ((2 ^ o : Nat) : Int)).toNat : Int) = ((s ||| 2 ^ o : Nat) : Int) := by decide +kernel
theorem or6_lt : ∀ s : Nat, s < 64 → ∀ o : Nat, o < 6 → s ||| 2 ^ o < 64 := by decide +kernel
abbrev bas (c h o s y : Int) (ns : List A) (V : Nat → Ln) (seen : Nat) : Heap :=
  [some ⟨122, [i64 c, i64 h, i64 o, i64 s, i64 y], true⟩, some ⟨90, encS V 16 ++ ns, true⟩, some ⟨4, [bo false], true⟩, some ⟨3, [i64 (5 / o + 1)], true⟩, some ⟨59, [i64u seen], true⟩, some ⟨0, [.lrec 74 [15, 16] [2, 3, 4, 5, 6] m50_l0 m50_l1, i64 0, i64 0, .ptr 0 0, .ptr 1 0, .ptr 2 0, .ptr 3 0, .ptr 4 0], true⟩]
abbrev basX (c h o s y : Int) (ns : List A) (V : Nat → Ln) (seen : Nat) : Heap :=
  [some ⟨122, [i64 c, i64 h, i64 o, i64 s, i64 y], true⟩, some ⟨90, encS V 16 ++ ns, true⟩, some ⟨4, [bo false], true⟩, some ⟨3, [i64 (5 / o + 1)], true⟩, some ⟨59, [i64u seen], true⟩, some ⟨0, [.lrec 74 [15, 16] [2, 3, 4, 5, 6] m50_l0 m50_l1, i64 2, i64 1, .ptr 0 0, .ptr 1 0, .ptr 2 0, .ptr 3 0, .ptr 4 0], true⟩]
set_option maxHeartbeats 16000000 in
theorem stored_round {c h o s y : Int} (hk : OkG c h o s y) {ns : List A} {V : Nat → Ln} {i j : Nat} (hi : i < 4) (hj : j < 4) {x : Ln} (hx : V (i * 4 + j) = x) (xk : x.Ok) {seen : Nat} (hs : seen < 64) {e : Env} {dst : Option Nat} {ms : List MOp} {k : List It} {Q : Ex → St → Prop}
    (hfree : x.state = 0 → OpsK Cx 0 ms ⟨put e dst (bo true), bas c h o s y ns V seen⟩ k Q)
    (hbad : x.state ≠ 0 → (okS o s i x && !seen.testBit x.line.toNat) = false → OpsK Cx 0 ms ⟨put e dst (bo false), basX c h o s y ns V seen⟩ k Q)
    (hgood : x.state ≠ 0 → okS o s i x = true → seen.testBit x.line.toNat = false → x.line < 6 → OpsK Cx 0 ms ⟨put e dst (bo true), bas c h o s y ns (putK V (i * 4 + j) noLn) (seen ||| 2 ^ x.line.toNat)⟩ k Q) :
    YlK Cx 5 [i64 i, i64 j] dst ms ⟨e, bas c h o s y ns V seen⟩ k Q := by
  have hf := free_ev x
  obtain ⟨tl, hd⟩ := encS_at V ns (k := i * 4 + j) (n := 16) (by omega)
  rw [hx] at hd
  have hoff : i * 32 + j * 8 = (i * 4 + j) * 8 := by omega
  obtain ⟨a1, a2⟩ := xk.line
  obtain ⟨a3, a4⟩ := xk.state
  have hset := fset_yes x.line hk a1 a2
  obtain ⟨c1, c2, h1, h2, o1, o2, s1, s2, y1, y2⟩ := id hk
  have hlen : (encS V 16).length = 128 := encS_len V 16
  have hd1 : List.drop ((i * 4 + j) * 8 + 1) (encS V 16 ++ ns) = [i8 x.state, .v (.int .i8 x.need), bo x.has, i8 x.d0, i8 x.d1, i8 x.d2, i8 x.d3] ++ tl := by rw [← List.drop_drop, hd]; rfl
  by_cases q0 : x.state = 0
  · have := hfree q0
    rw [decide_eq_true q0] at hf
    simp (disch := omega) only [go_sem, runK_rf, rfK_fn, callK_in, endK_go, endK_back, exK_go, exK_out, exK_back, pendK_some, anyK_yl, ylK_in, roundK_some, asgR_go, asgR_some, rndR_go, rndR_out, rndR_back, rndR_some, RecA.blk, zipE, newRecA, bas, basX, recOf, hoff, hd, hd1, hlen, List.length_append, simprocAttr, passK_shut CxP86, QK.use hf, passK_shut CxP87, QK.use hset]
    exact this
  · rw [decide_eq_false q0] at hf
    have lo : 5 / o + 1 ≤ 6 := by
      rcases (show o = 1 ∨ o = 2 ∨ o = 3 ∨ o = 4 by omega) with rfl | rfl | rfl | rfl <;> decide
    have bad := hbad q0
    have good := hgood q0
    unfold okS at bad good
    clear hfree hbad hgood
    by_cases p1 : 12 ≤ x.state
    · have := bad (by rw [decide_eq_false (by omega : ¬ x.state < 12)]; rfl)
      clear bad good
      simp (disch := omega) only [go_sem, runK_rf, rfK_fn, callK_in, endK_go, endK_back, exK_go, exK_out, exK_back, pendK_some, anyK_yl, ylK_in, roundK_some, asgR_go, asgR_some, rndR_go, rndR_out, rndR_back, rndR_some, RecA.blk, zipE, newRecA, bas, basX, recOf, hoff, hd, hd1, hlen, List.length_append, simprocAttr, passK_shut CxP86, QK.use hf, passK_shut CxP87, QK.use hset]
      exact this
    by_cases p2 : 5 / o + 1 ≤ x.line
    · have := bad (by rw [decide_eq_false (by omega : ¬ x.line < 5 / o + 1)]; simp)
      clear bad good
      simp (disch := omega) only [go_sem, runK_rf, rfK_fn, callK_in, endK_go, endK_back, exK_go, exK_out, exK_back, pendK_some, anyK_yl, ylK_in, roundK_some, asgR_go, asgR_some, rndR_go, rndR_out, rndR_back, rndR_some, RecA.blk, zipE, newRecA, bas, basX, recOf, hoff, hd, hd1, hlen, List.length_append, simprocAttr, passK_shut CxP86, QK.use hf, passK_shut CxP87, QK.use hset]
      exact this
    by_cases p3 : x.line % s = i
    case neg =>
      have := bad (by rw [decide_eq_false p3]; simp)
      clear bad good
      simp (disch := omega) only [go_sem, runK_rf, rfK_fn, callK_in, endK_go, endK_back, exK_go, exK_out, exK_back, pendK_some, anyK_yl, ylK_in, roundK_some, asgR_go, asgR_some, rndR_go, rndR_out, rndR_back, rndR_some, RecA.blk, zipE, newRecA, bas, basX, recOf, hoff, hd, hd1, hlen, List.length_append, simprocAttr, passK_shut CxP86, QK.use hf, passK_shut CxP87, QK.use hset]
      exact this
    obtain ⟨n, hn⟩ : ∃ n : Nat, x.line = n := ⟨x.line.toNat, by omega⟩
    have ht : x.line.toNat = n := by omega
    have hn6 : n < 6 := by omega
    have hshl := sh6 n hn6
    have hand := and6 seen hs n hn6
    have hor := or6 seen hs n hn6
    simp (disch := omega) only [go_sem, simprocAttr] at hshl hand hor
    have hput := encS_put V noLn (k := i * 4 + j) (n := 16) ns (by omega)
    rw [ht] at bad good
    cases hb : seen.testBit n
    case true =>
      have := bad (by rw [hb]; simp)
      clear bad good
      rw [hb] at hand
      simp (disch := omega) only [go_sem, runK_rf, rfK_fn, callK_in, endK_go, endK_back, exK_go, exK_out, exK_back, pendK_some, anyK_yl, ylK_in, roundK_some, asgR_go, asgR_some, rndR_go, rndR_out, rndR_back, rndR_some, RecA.blk, zipE, newRecA, bas, basX, recOf, hoff, hd, hd1, hlen, List.length_append, ht, hshl, hand, hor, simprocAttr, passK_shut CxP86, QK.use hf, passK_shut CxP87, QK.use hset]
      exact this
    · have := good (by simp [p3, show x.state < 12 by omega, show x.line < 5 / o + 1 by omega]) hb (by omega)
      clear bad good
      rw [hb] at hand
      simp (disch := omega) only [go_sem, runK_rf, rfK_fn, callK_in, endK_go, endK_back, exK_go, exK_out, exK_back, pendK_some, anyK_yl, ylK_in, roundK_some, asgR_go, asgR_some, rndR_go, rndR_out, rndR_back, rndR_some, RecA.blk, zipE, newRecA, bas, basX, recOf, hoff, hd, hd1, hlen, List.length_append, ht, hshl, hand, hor, simprocAttr, passK_shut CxP86, QK.use hf, passK_shut CxP87, QK.use hset]
      unfold bas at this
      rw [← hput] at this
      exact this
end Go.Proofs.YtnhknhniemfnjaaGreatDoor.Ev
namespace Go.Proofs.YtnhknhniemfnjaaGreatDoor.Ev
open Go Go.RowKit
set_option maxRecDepth 100000
theorem chk_cons (o s : Int) (p : Nat × Ln) (r : List (Nat × Ln)) (seen : Nat) : chk o s (p :: r) seen = if p.2.state = 0 then chk o s r seen else okS o s p.1 p.2 && (!seen.testBit p.2.line.toNat && chk o s r (seen ||| 2 ^ p.2.line.toNat)) := rfl
set_option maxHeartbeats 16000000 in
theorem stored_row {c h o s y : Int} (hk : OkG c h o s y) {ns : List A} {W : Nat → Nat → Ln} (hO : CacheO W) {n : Nat} (hy : y = n) {i : Nat} (hi : i < 4) {KK : List It} {Q : Ex → St → Prop} :
    ∀ (d j seen : Nat), j + d = n → seen < 64 → ((∀ r, chk o s (rowS W i j d ++ r) seen = false) → ∀ V s' e', UnwK Cx .back KK ⟨e', basX c h o s y ns V s'⟩ Q) →
      (∀ s' < 64, (∀ r, chk o s (rowS W i j d ++ r) seen = chk o s r s') → UnwK Cx (.out 2) KK ⟨[(15, bo false), (0, .yl 5), (1, .fp [i64 c, i64 h, i64 o, i64 s, i64 y]), (3, i64 i), (7, i64 s), (8, i64 i), (13, i64 y), (14, i64 n)], bas c h o s y ns (visit n W i n) s'⟩ Q) →
      RunK Cx (.code (.loop m120_l1) :: KK) ⟨[(0, .yl 5), (1, .fp [i64 c, i64 h, i64 o, i64 s, i64 y]), (3, i64 i), (7, i64 s), (8, i64 i), (13, i64 y), (14, i64 j)], bas c h o s y ns (visit n W i j) seen⟩ Q := by
  intro d
  have hn4 : n ≤ 4 := by
    obtain ⟨c1, c2, h1, h2, o1, o2, s1, s2, y1, y2⟩ := id hk
    omega
  induction d with
  | zero =>
    intro j seen hj hs _ hT
    obtain rfl : j = n := by omega
    have := hT seen hs fun r => rfl
    subst hy
    rw [runK_loop]
    simp (disch := omega) only [go_sem, Int.lt_irrefl, simprocAttr]
    exact this
  | succ d ih =>
    intro j seen hj hs hN hT
    have hjn : j < n := by omega
    have hx : visit n W i j (i * 4 + j) = W i j := visit_at (by omega)
    have er : rowS W i j (d + 1) = (i, W i j) :: rowS W i (j + 1) d := rfl
    rw [er] at hN hT
    simp only [List.cons_append, chk_cons] at hN hT
    have ih := fun seen => ih (j + 1) seen (by omega)
    simp only [Int.natCast_add, Int.natCast_one] at ih
    subst hy
    rw [runK_loop]
    simp (disch := omega) only [go_sem, simprocAttr, anyK_yl]
    refine stored_round hk hi (by omega) hx (hO.ok i j hi (by omega)) hs (fun q0 => ?_) (fun q0 q1 => ?_) (fun q0 q1 q2 q3 => ?_)
    · simp only [q0, if_true] at hN hT
      simp (disch := omega) only [go_sem, simprocAttr]
      rw [loop_norm (l := [0, 1, 3, 7, 8, 13, 14]) rfl]
      simp (disch := omega) only [go_sem, simprocAttr]
      have e := visit_free (y := n) (W := W) (i := i) (j := j) (by omega) q0
      rw [← e]
      exact ih seen hs hN hT
    · have := hN (fun r => by
        rw [if_neg q0]
        rcases Bool.and_eq_false_iff.1 q1 with h | h
        · rw [h]; rfl
        · rw [h]; simp)
      simp (disch := omega) only [go_sem, simprocAttr]
      exact this _ _ _
    · simp only [q0, if_false, q1, q2, Bool.true_and, Bool.not_false] at hN hT
      simp (disch := omega) only [go_sem, simprocAttr]
      rw [loop_norm (l := [0, 1, 3, 7, 8, 13, 14]) rfl]
      simp (disch := omega) only [go_sem, simprocAttr]
      have e := visit_taken (y := n) (W := W) (i := i) (j := j) (by omega) hjn q0
      rw [← e]
      exact ih _ (or6_lt seen hs _ (by omega)) hN hT
set_option maxHeartbeats 16000000 in
theorem stored_all {c h o s y : Int} (hk : OkG c h o s y) {ns : List A} {W : Nat → Nat → Ln} (hO : CacheO W) {n k : Nat} (hy : y = n) (hks : s = k) {KK : List It} {Q : Ex → St → Prop} :
    ∀ (d i seen : Nat), i + d = k → seen < 64 → (chk o s (allS W n i d) seen = false → ∀ V s' e', UnwK Cx .back KK ⟨e', basX c h o s y ns V s'⟩ Q) →
      (chk o s (allS W n i d) seen = true → ∀ s' < 64, UnwK Cx (.out 0) KK ⟨[(9, bo false), (0, .yl 5), (1, .fp [i64 c, i64 h, i64 o, i64 s, i64 y]), (7, i64 s), (8, i64 k)], bas c h o s y ns (visit n W k 0) s'⟩ Q) →
      RunK Cx (.code (.loop m120_l0) :: KK) ⟨[(0, .yl 5), (1, .fp [i64 c, i64 h, i64 o, i64 s, i64 y]), (7, i64 s), (8, i64 i)], bas c h o s y ns (visit n W i 0) seen⟩ Q := by
  intro d
  have hn4 : n ≤ 4 ∧ k ≤ 4 := by
    obtain ⟨c1, c2, h1, h2, o1, o2, s1, s2, y1, y2⟩ := id hk
    omega
  induction d with
  | zero =>
    intro i seen hi hs _ hT
    obtain rfl : i = k := by omega
    have := hT rfl seen hs
    subst hks
    rw [runK_loop]
    simp (disch := omega) only [go_sem, Int.lt_irrefl, simprocAttr]
    exact this
  | succ d ih =>
    intro i seen hi hs hN hT
    have er : allS W n i (d + 1) = rowS W i 0 n ++ allS W n (i + 1) d := rfl
    rw [er] at hN hT
    have ih := fun seen => ih (i + 1) seen (by omega)
    simp only [Int.natCast_add, Int.natCast_one] at ih
    subst hks
    rw [runK_loop]
    simp (disch := omega) only [go_sem, simprocAttr]
    rw [loop_norm (l := [0, 1, 3, 7, 8, 13, 14]) rfl]
    simp (disch := omega) only [go_sem, simprocAttr]
    refine stored_row hk hO hy (by omega) n 0 seen (by omega) hs (fun q V s' e' => ?_) (fun s' hs' q => ?_)
    · have := hN (q _)
      simp (disch := omega) only [go_sem, simprocAttr]
      exact this _ _ _
    · rw [q] at hN hT
      simp (disch := omega) only [go_sem, simprocAttr]
      rw [loop_norm (l := [0, 1, 7, 8]) rfl]
      simp (disch := omega) only [go_sem, simprocAttr]
      rw [visit_next hn4.1]
      exact ih s' hs' hN hT
end Go.Proofs.YtnhknhniemfnjaaGreatDoor.Ev
