/- walk.Read. -/
import Derived.Test.YtijpomemobgddaaGreatDoorS8
set_option linter.unusedSimpArgs false
set_option linter.unusedVariables false
namespace Go.Proofs.YtijpomemobgddaaGreatDoor.Ev
open Go Go.RowKit
set_option maxRecDepth 100000
/-- A step's cells. -/
def st14 (k n l k' f t l' a c : Int) (b : Bool) (d0 d1 d2 d3 : Int) : List Value := [.int .u8 k, .int .u8 n, .int .u8 l, .int .u8 k', .int .u8 f, .int .u8 t, .int .u8 l', .int .u8 a, .int .u8 c, .bool b, .int .u8 d0, .int .u8 d1, .int .u8 d2, .int .u8 d3]
def Is14 (x : List Value) : Prop := ∃ (k n l k' f t l' a c : Int) (b : Bool) (d0 d1 d2 d3 : Int), x = st14 k n l k' f t l' a c b d0 d1 d2 d3
def stX (x : List Value) : A := .agg (x.map .v)
theorem StepG.is {x : A} (h : StepG x) : ∃ y, Is14 y ∧ x = stX y := by
  rcases h with ⟨k, n, l, -, -, -, rfl⟩ | ⟨k, f, t, l, a, c, b, d0, d1, d2, d3, -, rfl⟩
  · exact ⟨_, ⟨_, _, _, _, _, _, _, _, _, _, _, _, _, _, rfl⟩, rfl⟩
  · exact ⟨_, ⟨_, _, _, _, _, _, _, _, _, _, _, _, _, _, rfl⟩, rfl⟩
def readR : Option (List Value) → A
  | some x => .tup [stX x, Bo true]
  | none => .tup [stA 0 0 0 mz, Bo false]
/-- What read gives at a line. -/
def LineOk (rd : ByteArray → Option (List Value)) : Prop := ∀ s : ByteArray, s.size ≤ 2000 → EvQ Cx 18 [Sv s] (readR (rd s)) ∧ ∀ x, rd s = some x → Is14 x ∧ StepG (stX x) ∧ EvQ Cx 19 [stX x] (.tup [Sv s, Bo true])
theorem rd_ex : ∃ rd, LineOk rd := by
  have h : ∀ s : ByteArray, ∃ o : Option (List Value), s.size ≤ 2000 → EvQ Cx 18 [Sv s] (readR o) ∧ ∀ x, o = some x → Is14 x ∧ StepG (stX x) ∧ EvQ Cx 19 [stX x] (.tup [Sv s, Bo true]) := by
    intro s
    by_cases hs : s.size ≤ 2000
    · obtain ⟨r, h1, ⟨x, h2, h3, rfl⟩ | rfl⟩ := read_ev hs
      · obtain ⟨y, h4, rfl⟩ := h2.is
        exact ⟨some y, fun _ => ⟨h1, fun z hz => by cases hz; exact ⟨h4, h2, h3⟩⟩⟩
      · exact ⟨none, fun _ => ⟨h1, fun z hz => by cases hz⟩⟩
    · exact ⟨none, fun h => absurd h hs⟩
  exact ⟨fun s => Classical.choose (h s), fun s => Classical.choose_spec (h s)⟩
def lp (rd : ByteArray → Option (List Value)) : Nat → ByteArray → List (List Value) → Nat → List (List Value) × Nat × Bool
  | 0, _, xs, _ => (xs, 0, true)
  | k + 1, t, xs, n => if t.size = 0 then (xs, 0, true) else match rd (cutA 10 t).1, (cutA 10 t).2.2 with
    | some x, true => lp rd k (cutA 10 t).2.1 (xs ++ [x]) (n + 1)
    | _, _ => ([], n + 1, false)
abbrev An : A := .v (.slice none 0 0)
/-- The heap of Read. -/
def rbH (v : A) (n : Int) (t : ByteArray) (T : Heap) : Heap := some ⟨22, [An], true⟩ :: some ⟨3, [I64 0], true⟩ :: some ⟨27, [I64 0], true⟩ :: some ⟨22, [v], true⟩ :: some ⟨3, [I64 n], true⟩ :: some ⟨9, [Sv t], true⟩ :: some ⟨0, [.lrec 34 [13, 14] [2, 3, 4, 5, 6] m8_l0 m8_l1, I64 0, I64 0, .ptr 0 0, .ptr 1 0, .ptr 2 0, .ptr 3 0, .ptr 4 0], true⟩ :: T
def rbF (v : A) (n : Int) (t : ByteArray) (T : Heap) : Heap := some ⟨22, [An], true⟩ :: some ⟨3, [I64 n], true⟩ :: some ⟨27, [I64 340], true⟩ :: some ⟨22, [v], true⟩ :: some ⟨3, [I64 n], true⟩ :: some ⟨9, [Sv t], true⟩ :: some ⟨0, [.lrec 34 [13, 14] [2, 3, 4, 5, 6] m8_l0 m8_l1, I64 2, I64 1, .ptr 0 0, .ptr 1 0, .ptr 2 0, .ptr 3 0, .ptr 4 0], true⟩ :: T
def flatX (xs : List (List Value)) : List A := xs.flatten.map .v
def SlT (T : Heap) (v : A) (xs : List (List Value)) : Prop := (xs = [] ∧ v = An) ∨ (xs ≠ [] ∧ ∃ j, j < T.length ∧ v = .ref (j + 7) 0 xs.length 14 ∧ ∀ l, (T ++ l)[j]? = some (some ⟨84, flatX xs, false⟩))
theorem ap_three {α : Type} (T : List α) (a b c : α) : T ++ [a, b, c] = T ++ [a, b] ++ [c] := by simp
section
variable {α : Type}
theorem ap_get0 (H : List α) (x : α) (l : List α) : (H ++ x :: l)[H.length]? = some x := by simp
theorem ap_set0 (H : List α) (x y : α) (l : List α) : (H ++ x :: l).set H.length y = H ++ y :: l := by simp
theorem ap_getk (H l : List α) (k : Nat) : (H ++ l)[H.length + k]? = l[k]? := by
  rw [List.getElem?_append_right (by omega)]
  simp
theorem ap_setk (H l : List α) (k : Nat) (y : α) : (H ++ l).set (H.length + k) y = H ++ l.set k y := by
  rw [List.set_append_right _ _ (by omega)]
  simp
end
theorem sz0 {t : ByteArray} (h : t.size = 0) : t = ⟨⟨[]⟩⟩ := ByteArray.ext (Array.eq_empty_of_size_eq_zero h)
theorem cutA_lt (c : Nat) (s : ByteArray) (h : (cutA c s).2.2 = true) : (cutA c s).2.1.size < s.size := by
  unfold cutA at h ⊢
  split
  · rename_i hi
    have hl := idxB_lt c s.data.toList 0 (by omega)
    rw [size_data] at hl
    simp
    omega
  · rename_i hi
    rw [if_neg hi] at h
    cases h
theorem Is14.len {x : List Value} (h : Is14 x) : x.length = 14 := by
  obtain ⟨q1, q2, q3, q4, q5, q6, q7, q8, q9, b, p0, p1, p2, p3, rfl⟩ := h
  rfl
theorem flatX_len : ∀ {xs : List (List Value)}, (∀ x ∈ xs, Is14 x) → (flatX xs).length = xs.length * 14
  | [], _ => rfl
  | x :: xs, h => by
    have h1 := (h x (.head _)).len
    have h2 := flatX_len fun y hy => h y (.tail _ hy)
    unfold flatX at h2 ⊢
    simp only [List.length_map, List.flatten_cons, List.length_append, List.length_cons] at h2 ⊢
    omega
theorem slT_new {T T' : Heap} {k n : Nat} {xs : List (List Value)} {cs : List A} (hk : T.length = k) (hn : n = xs.length) (hne : xs ≠ []) (hc : cs = flatX xs) (hT : T' = T ++ [some ⟨84, cs, false⟩] := by rfl) : SlT T' (.ref (k + 7) 0 n 14) xs := by
  subst hc
  subst hT
  subst hk
  subst hn
  refine .inr ⟨hne, T.length, by simp, rfl, fun l => ?_⟩
  rw [List.append_assoc]
  exact ap_get0 _ _ _
theorem read_loop {rd : ByteArray → Option (List Value)} (hrd : LineOk rd) {KK : List It} {Q : Ex → Ev.St → Prop} :
    ∀ (k : Nat) (t : ByteArray) (xs : List (List Value)) (n : Nat) (v : A) (T : Heap), t.size ≤ k → k + n ≤ 2000 → (∀ x ∈ xs, Is14 x) → xs.length = n → SlT T v xs →
      (∀ (xs' : List (List Value)), lp rd k t xs n = (xs', 0, true) → (∀ x ∈ xs', Is14 x) → ∀ (T : Heap) (v : A) (n : Int) (e : Env), SlT T v xs' → UnwK Cx (.out 0) KK ⟨e, rbH v n ⟨⟨[]⟩⟩ T⟩ Q) →
      (∀ m : Nat, lp rd k t xs n = ([], m, false) → ∀ (T : Heap) (v : A) (t : ByteArray) (e : Env), UnwK Cx .back KK ⟨e, rbF v m t T⟩ Q) →
      RunK Cx (.code (.loop m34_l0) :: KK) ⟨[(0, .yl 6), (1, .ptr 5 0)], rbH v n t T⟩ Q := by
  intro k
  induction k with
  | zero =>
    intro t xs n v T ht hn h14 hx hv hE hF
    obtain rfl := sz0 (t := t) (by omega)
    rw [runK_loop]
    simp (config := { maxSteps := 10000000 }) (disch := omega) only [go_sem, simprocAttr, runK_rf, rfK_fn, callK_in, endK_go, endK_back, exK_go, exK_out, exK_back, pendK_some, anyK_yl, ylK_in, roundK_some, asgR_go, asgR_some, rndR_go, rndR_out, rndR_back, rndR_some, RecA.blk, zipE, newRecA, recOf, pending, exOfN, rbH]
    exact hE xs rfl h14 _ _ _ _ hv
  | succ k ih =>
    intro t xs n v T ht hn h14 hx hv hE hF
    by_cases h0 : t.size = 0
    · obtain rfl := sz0 h0
      rw [runK_loop]
      simp (config := { maxSteps := 10000000 }) (disch := omega) only [go_sem, simprocAttr, runK_rf, rfK_fn, callK_in, endK_go, endK_back, exK_go, exK_out, exK_back, pendK_some, anyK_yl, ylK_in, roundK_some, asgR_go, asgR_some, rndR_go, rndR_out, rndR_back, rndR_some, RecA.blk, zipE, newRecA, recOf, pending, exOfN, rbH]
      exact hE xs (by simp [lp, h0]) h14 _ _ _ _ hv
    · have hne : (t.toList == (⟨⟨[]⟩⟩ : ByteArray).toList) = false := by
        cases hb : (t.toList == (⟨⟨[]⟩⟩ : ByteArray).toList) with
        | false => rfl
        | true =>
          rw [bs_eq hb] at h0
          exact absurd rfl h0
      have hq : EvQ Cx 35 [Sv t, Sv ⟨⟨[10]⟩⟩] _ := cut_ev t (by omega) 10
      have hlp : lp rd (k + 1) t xs n = (match rd (cutA 10 t).1, (cutA 10 t).2.2 with
        | some x, true => lp rd k (cutA 10 t).2.1 (xs ++ [x]) (n + 1)
        | _, _ => ([], n + 1, false)) := by rw [lp, if_neg h0]
      rw [hlp] at hE hF
      clear hlp
      have hl := (cutA_size 10 t).1
      have hr := cutA_lt 10 t
      change EvQ Cx 35 [Sv t, Sv ⟨⟨[10]⟩⟩] (.tup [Sv (cutA 10 t).1, Sv (cutA 10 t).2.1, Bo (cutA 10 t).2.2]) at hq
      generalize cutA 10 t = cu at *
      obtain ⟨line, rest, whole⟩ := cu
      simp only at hq hE hF hl hr
      obtain ⟨hrl, hx14⟩ := hrd line (by omega)
      cases hro : rd line with
      | none =>
        rw [hro] at hrl hE hF
        rw [runK_loop]
        unfold readR stA mz at hrl
        cases whole
        · simp (config := { maxSteps := 10000000 }) (disch := omega) only [go_sem, simprocAttr, runK_rf, rfK_fn, callK_in, endK_go, endK_back, exK_go, exK_out, exK_back, pendK_some, anyK_yl, ylK_in, roundK_some, asgR_go, asgR_some, rndR_go, rndR_out, rndR_back, rndR_some, RecA.blk, zipE, newRecA, recOf, pending, exOfN, rbH, hne, ap_get0, ap_set0, ap_getk, ap_setk, List.length_append, List.append_assoc, List.length_set, passK_shut CxP35, QK.use hq, passK_shut CxP18, QK.use hrl]
          exact hF (n + 1) rfl _ v t _
        · simp (config := { maxSteps := 10000000 }) (disch := omega) only [go_sem, simprocAttr, runK_rf, rfK_fn, callK_in, endK_go, endK_back, exK_go, exK_out, exK_back, pendK_some, anyK_yl, ylK_in, roundK_some, asgR_go, asgR_some, rndR_go, rndR_out, rndR_back, rndR_some, RecA.blk, zipE, newRecA, recOf, pending, exOfN, rbH, hne, ap_get0, ap_set0, ap_getk, ap_setk, List.length_append, List.append_assoc, List.length_set, passK_shut CxP35, QK.use hq, passK_shut CxP18, QK.use hrl]
          exact hF (n + 1) rfl _ v t _
      | some x =>
        rw [hro] at hrl hE hF
        obtain ⟨⟨q1, q2, q3, q4, q5, q6, q7, q8, q9, b, p0, p1, p2, p3, rfl⟩, -, -⟩ := hx14 x hro
        unfold readR stX st14 at hrl
        simp only [List.map_cons, List.map_nil] at hrl
        rw [runK_loop]
        cases whole
        · simp (config := { maxSteps := 10000000 }) (disch := omega) only [go_sem, simprocAttr, runK_rf, rfK_fn, callK_in, endK_go, endK_back, exK_go, exK_out, exK_back, pendK_some, anyK_yl, ylK_in, roundK_some, asgR_go, asgR_some, rndR_go, rndR_out, rndR_back, rndR_some, RecA.blk, zipE, newRecA, recOf, pending, exOfN, rbH, hne, ap_get0, ap_set0, ap_getk, ap_setk, List.length_append, List.append_assoc, List.length_set, passK_shut CxP35, QK.use hq, passK_shut CxP18, QK.use hrl]
          exact hF (n + 1) rfl _ v t _
        · have hr := hr rfl
          have h14' : ∀ x ∈ xs ++ [st14 q1 q2 q3 q4 q5 q6 q7 q8 q9 b p0 p1 p2 p3], Is14 x := by
            intro y hy
            rcases List.mem_append.1 hy with hy | hy
            · exact h14 y hy
            · rw [List.mem_singleton.1 hy]
              exact ⟨_, _, _, _, _, _, _, _, _, _, _, _, _, _, rfl⟩
          have hst := fun v T hv => ih rest (xs ++ [st14 q1 q2 q3 q4 q5 q6 q7 q8 q9 b p0 p1 p2 p3]) (n + 1) v T (by omega) (by omega) h14' (by simp [hx]) hv hE hF
          rcases hv with ⟨rfl, rfl⟩ | ⟨hxs, j, hj, rfl, hjl⟩
          · simp (config := { maxSteps := 10000000 }) (disch := omega) only [go_sem, simprocAttr, runK_rf, rfK_fn, callK_in, endK_go, endK_back, exK_go, exK_out, exK_back, pendK_some, anyK_yl, ylK_in, roundK_some, asgR_go, asgR_some, rndR_go, rndR_out, rndR_back, rndR_some, RecA.blk, zipE, newRecA, recOf, pending, exOfN, rbH, hne, ap_get0, ap_set0, ap_getk, ap_setk, List.length_append, List.append_assoc, List.length_set, passK_shut CxP35, QK.use hq, passK_shut CxP18, QK.use hrl]
            rw [loop_norm (l := [0, 1]) rfl]
            simp (config := { maxSteps := 10000000 }) (disch := omega) only [go_sem, simprocAttr]
            refine hst _ _ ?_
            rw [ap_three]
            refine slT_new ?_ ?_ ?_ ?_ (hT := rfl)
            · simp
            · simp
            · simp
            · rfl
          · have z1 := flatX_len h14
            have z2 : List.take (xs.length * 14) (flatX xs) = flatX xs := List.take_of_length_le (by omega)
            simp (config := { maxSteps := 10000000 }) (disch := omega) only [go_sem, simprocAttr, runK_rf, rfK_fn, callK_in, endK_go, endK_back, exK_go, exK_out, exK_back, pendK_some, anyK_yl, ylK_in, roundK_some, asgR_go, asgR_some, rndR_go, rndR_out, rndR_back, rndR_some, RecA.blk, zipE, newRecA, recOf, pending, exOfN, rbH, hne, ap_get0, ap_set0, ap_getk, ap_setk, List.length_append, List.append_assoc, List.length_set, passK_shut CxP35, QK.use hq, passK_shut CxP18, QK.use hrl, hjl, z1, z2]
            rw [loop_norm (l := [0, 1]) rfl]
            simp (config := { maxSteps := 10000000 }) (disch := omega) only [go_sem, simprocAttr]
            refine hst _ _ ?_
            refine slT_new ?_ ?_ ?_ ?_ (hT := rfl)
            · simp
            · simp
            · simp
            · simp [flatX, st14]
theorem lp_cases (rd : ByteArray → Option (List Value)) : ∀ (k : Nat) (t : ByteArray) (xs : List (List Value)) (n : Nat), (∃ xs', lp rd k t xs n = (xs', 0, true)) ∨ ∃ m, lp rd k t xs n = ([], m, false)
  | 0, _, xs, _ => .inl ⟨xs, rfl⟩
  | k + 1, t, xs, n => by
    rw [lp]
    split
    · exact .inl ⟨xs, rfl⟩
    · split
      · exact lp_cases rd k _ _ _
      · exact .inr ⟨_, rfl⟩
def slX (xs : List (List Value)) : A := if xs = [] then An else .sl xs.length (flatX xs)
def RdA : List (List Value) × Nat × Bool → A
  | (xs, _, true) => .tup [slX xs, I64 0, I64 0]
  | (_, n, false) => .tup [An, I64 n, I64 340]
theorem fz_flat {H : Heap} {n : Nat} {xs : List (List Value)} : mapO (freeze H (n + 1)) (flatX xs) = some (flatX xs) := by
  unfold flatX
  induction xs.flatten with
  | nil => rfl
  | cons v vs ih => rw [List.map_cons, mapO_cons, fz_v, ih]
set_option maxHeartbeats 1000000 in
theorem Read_ev {rd : ByteArray → Option (List Value)} (hrd : LineOk rd) {s : ByteArray} (hs : s.size ≤ 2000) : EvQ Cx 8 [Sv s] (RdA (lp rd s.size s [] 0)) := by
  refine evQ_of CxB8 rfl (by simp [fn8]) ?_
  simp (config := { maxSteps := 10000000 }) (disch := omega) only [go_sem, simprocAttr, runK_rf, rfK_fn, callK_in, endK_go, endK_back, exK_go, exK_out, exK_back, pendK_some, anyK_yl, ylK_in, roundK_some, asgR_go, asgR_some, rndR_go, rndR_out, rndR_back, rndR_some, RecA.blk, zipE, newRecA, passK_in CxB17 CxP17]
  rw [callK_in CxB34 CxP34]
  simp (config := { maxSteps := 10000000 }) (disch := omega) only [go_sem, simprocAttr, runK_rf, rfK_fn, callK_in, endK_go, endK_back, exK_go, exK_out, exK_back, pendK_some, anyK_yl, ylK_in, roundK_some, asgR_go, asgR_some, rndR_go, rndR_out, rndR_back, rndR_some, RecA.blk, zipE, newRecA]
  refine read_loop hrd s.size s [] 0 An [] (Nat.le_refl _) (by omega) (fun x hx => by cases hx) rfl (.inl ⟨rfl, rfl⟩) (fun xs' h h14 T v n e hv => ?_) (fun m h T v t e => ?_)
  · rw [h]
    have z1 := flatX_len h14
    have z2 : List.take (xs'.length * 14) (flatX xs') = flatX xs' := List.take_of_length_le (by omega)
    rcases hv with ⟨rfl, rfl⟩ | ⟨hxs, j, hj, rfl, hjl⟩
    · simp (config := { maxSteps := 10000000 }) (disch := omega) only [go_sem, simprocAttr, runK_rf, rfK_fn, callK_in, endK_go, endK_back, exK_go, exK_out, exK_back, pendK_some, anyK_yl, ylK_in, roundK_some, asgR_go, asgR_some, rndR_go, rndR_out, rndR_back, rndR_some, RecA.blk, zipE, newRecA, recOf, pending, exOfN, rbH]
      exact ⟨_, rfl, rfl⟩
    · have hj0 := hjl []
      rw [List.append_nil] at hj0
      simp (config := { maxSteps := 10000000 }) (disch := omega) only [go_sem, simprocAttr, runK_rf, rfK_fn, callK_in, endK_go, endK_back, exK_go, exK_out, exK_back, pendK_some, anyK_yl, ylK_in, roundK_some, asgR_go, asgR_some, rndR_go, rndR_out, rndR_back, rndR_some, RecA.blk, zipE, newRecA, recOf, pending, exOfN, rbH, hj0, z1, z2, fz_flat]
      exact ⟨_, rfl, by simp [RdA, slX, hxs]⟩
  · rw [h]
    simp (config := { maxSteps := 10000000 }) (disch := omega) only [go_sem, simprocAttr, runK_rf, rfK_fn, callK_in, endK_go, endK_back, exK_go, exK_out, exK_back, pendK_some, anyK_yl, ylK_in, roundK_some, asgR_go, asgR_some, rndR_go, rndR_out, rndR_back, rndR_some, RecA.blk, zipE, newRecA, recOf, pending, exOfN, rbF]
    exact ⟨_, rfl, rfl⟩
end Go.Proofs.YtijpomemobgddaaGreatDoor.Ev
