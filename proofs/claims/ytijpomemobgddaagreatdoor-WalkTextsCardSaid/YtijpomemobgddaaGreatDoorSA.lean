/- walk.Text. -/
import Derived.Test.YtijpomemobgddaaGreatDoorS9
set_option linter.unusedSimpArgs false
set_option linter.unusedVariables false
namespace Go.Proofs.YtijpomemobgddaaGreatDoor.Ev
open Go Go.RowKit
set_option maxRecDepth 100000
def byA (l : List UInt8) : List A := l.map fun b => .v (.int .u8 b.toNat)
/-- A row of bytes that grows. -/
def BlT (T : Heap) (v : A) (bs : List UInt8) : Prop := (bs = [] ∧ v = An) ∨ (bs ≠ [] ∧ ∃ j, j < T.length ∧ v = .ref (j + 1) 0 bs.length 1 ∧ ∀ l, (T ++ l)[j]? = some (some ⟨5, byA bs, false⟩))
theorem blT_new {T T' : Heap} {k n : Nat} {bs : List UInt8} {cs : List A} (hk : T.length = k) (hn : n = bs.length) (hne : bs ≠ []) (hc : cs = byA bs) (hT : T' = T ++ [some ⟨5, cs, false⟩] := by rfl) : BlT T' (.ref (k + 1) 0 n 1) bs := by
  subst hc
  subst hT
  subst hk
  subst hn
  refine .inr ⟨hne, T.length, by simp, rfl, fun l => ?_⟩
  rw [List.append_assoc]
  exact ap_get0 _ _ _
def FmOk (fm : List Value → ByteArray × Bool) (xs : List (List Value)) : Prop := ∀ x ∈ xs, Is14 x ∧ EvQ Cx 19 [stX x] (.tup [Sv (fm x).1, Bo (fm x).2]) ∧ (fm x).1.size ≤ 3000 ∧ ((fm x).2 = true → 0 < (fm x).1.size)
/-- What Text gives: bytes, or nothing. -/
def txM (fm : List Value → ByteArray × Bool) : List (List Value) → List UInt8 → Option (List UInt8)
  | [], bs => some bs
  | x :: xs, bs => if (fm x).2 then txM fm xs (bs ++ (fm x).1.data.toList ++ [10]) else none
def tbH (p v : A) (T : Heap) : Heap := some ⟨89, [p, v], true⟩ :: T
theorem cc_k1 {u : A} {T : Heap} {dst : Option Nat} {ms : List MOp} {e : Env} {k : List It} {Q : Ex → Ev.St → Prop} : PassK Cx 45 [.ptr 0 0] dst ms ⟨e, some ⟨89, [.v (.pointer none), u], true⟩ :: T⟩ k Q ↔ OpsK Cx 0 ms ⟨put e dst (.tup []), some ⟨89, [.ptr 0 0, u], true⟩ :: T⟩ k Q :=
  passK_xo (g := ccO) rfl (by simp [ccO])
theorem cc_k2 {u : A} {T : Heap} {dst : Option Nat} {ms : List MOp} {e : Env} {k : List It} {Q : Ex → Ev.St → Prop} : PassK Cx 45 [.ptr 0 0] dst ms ⟨e, some ⟨89, [.ptr 0 0, u], true⟩ :: T⟩ k Q ↔ OpsK Cx 0 ms ⟨put e dst (.tup []), some ⟨89, [.ptr 0 0, u], true⟩ :: T⟩ k Q :=
  passK_xo (g := ccO) rfl (by simp [ccO])
theorem byA_len (l : List UInt8) : (byA l).length = l.length := by simp [byA]
theorem ones_bytes : ∀ l : List UInt8, ones (l.map fun b => .v (.int .u8 b.toNat)) = true
  | [] => rfl
  | b :: l => by
    rw [List.map_cons]
    exact ones_bytes l
theorem ones_byA (l : List UInt8) : ones (byA l) = true := ones_bytes l
theorem ap_four {α : Type} (T : List α) (a b c d : α) : T ++ [a, b, c, d] = T ++ [a, b, c] ++ [d] := by simp
theorem text_loop {fm : List Value → ByteArray × Bool} {xs : List (List Value)} (hfm : FmOk fm xs) (hlen : xs.length ≤ 3000) {KK : List It} {Q : Ex → Ev.St → Prop} :
    ∀ (zs ys : List (List Value)) (bs : List UInt8) (p v : A) (T : Heap), xs = ys ++ zs → bs.length ≤ ys.length * 3001 → p = .v (.pointer none) ∨ p = .ptr 0 0 → BlT T v bs →
      (∀ bs', txM fm zs bs = some bs' → bs'.length ≤ 10000000 → ∀ (p v : A) (T : Heap), p = .v (.pointer none) ∨ p = .ptr 0 0 → BlT T v bs' → UnwK Cx (.out 0) KK ⟨[(12, Bo false), (4, .ptr 0 0), (9, .sl xs.length (flatX xs)), (10, I64 xs.length), (11, I64 xs.length)], tbH p v T⟩ Q) →
      (txM fm zs bs = none → ∀ (H : Heap), UnwK Cx .back KK ⟨[(3, I64 2), (2, Sv ⟨⟨[]⟩⟩)], H⟩ Q) →
      RunK Cx (.code (.loop m9_l0) :: KK) ⟨[(4, .ptr 0 0), (9, .sl xs.length (flatX xs)), (10, I64 xs.length), (11, I64 ys.length)], tbH p v T⟩ Q := by
  intro zs
  induction zs with
  | nil =>
    intro ys bs p v T hx hb hp hv hE hF
    have hy : ys.length = xs.length := by rw [hx]; simp
    rw [runK_loop]
    simp (config := { maxSteps := 10000000 }) (disch := omega) only [go_sem, simprocAttr, hy, tbH]
    exact hE bs rfl (by omega) p v T hp hv
  | cons x zs ih =>
    intro ys bs p v T hx hb hp hv hE hF
    obtain ⟨⟨q1, q2, q3, q4, q5, q6, q7, q8, q9, b, p0, p1, p2, p3, rfl⟩, hf, hz, hpos⟩ := hfm x (by rw [hx]; simp)
    have h14 : ∀ y ∈ xs, Is14 y := fun y hy => (hfm y hy).1
    have hy : ys.length < xs.length := by rw [hx]; simp
    have hfl : flatX xs = flatX ys ++ flatX (st14 q1 q2 q3 q4 q5 q6 q7 q8 q9 b p0 p1 p2 p3 :: zs) := by rw [hx]; simp [flatX]
    have hd : List.drop (ys.length * 14) (flatX xs) = (st14 q1 q2 q3 q4 q5 q6 q7 q8 q9 b p0 p1 p2 p3).map .v ++ flatX zs := by
      rw [hfl, ← flatX_len (fun y hy => h14 y (by rw [hx]; simp [hy])), List.drop_left]
      simp [flatX]
    have hxl := flatX_len h14
    simp only [st14, List.map_cons, List.map_nil, List.cons_append, List.nil_append] at hd
    have hf' := hf
    unfold stX at hf
    simp only [st14, List.map_cons, List.map_nil] at hf
    rw [runK_loop]
    have htx : txM fm (st14 q1 q2 q3 q4 q5 q6 q7 q8 q9 b p0 p1 p2 p3 :: zs) bs = if (fm (st14 q1 q2 q3 q4 q5 q6 q7 q8 q9 b p0 p1 p2 p3)).2 then txM fm zs (bs ++ (fm (st14 q1 q2 q3 q4 q5 q6 q7 q8 q9 b p0 p1 p2 p3)).1.data.toList ++ [10]) else none := rfl
    rw [htx] at hE hF
    clear htx
    change EvQ Cx 19 _ (.tup [Sv (fm (st14 q1 q2 q3 q4 q5 q6 q7 q8 q9 b p0 p1 p2 p3)).1, Bo (fm (st14 q1 q2 q3 q4 q5 q6 q7 q8 q9 b p0 p1 p2 p3)).2]) at hf
    clear hf'
    generalize fm (st14 q1 q2 q3 q4 q5 q6 q7 q8 q9 b p0 p1 p2 p3) = fx at *
    obtain ⟨S, B⟩ := fx
    simp only at hf hz hpos hE hF
    cases B with
    | false =>
      simp (config := { maxSteps := 10000000 }) (disch := omega) only [go_sem, simprocAttr, tbH, hd, hxl, ap_get0, ap_set0, ap_getk, ap_setk, List.length_append, List.append_assoc, List.length_set, passK_shut CxP19, QK.use hf]
      exact hF rfl _
    | true =>
      have hpos := hpos rfl
      have hS : S.data.toList.length = S.size := rfl
      have hT : List.take S.size (List.map (fun b => A.v (Value.int IntKind.u8 ↑b.toNat)) S.data.toList) = List.map (fun b => A.v (Value.int IntKind.u8 ↑b.toNat)) S.data.toList := List.take_of_length_le (by simp [hS])
      rw [if_pos rfl] at hE hF
      have hst := fun p v T hp hv => ih (ys ++ [st14 q1 q2 q3 q4 q5 q6 q7 q8 q9 b p0 p1 p2 p3]) (bs ++ S.data.toList ++ [10]) p v T (by rw [hx]; simp) (by simp; omega) hp hv hE hF
      have hyl : (((ys ++ [st14 q1 q2 q3 q4 q5 q6 q7 q8 q9 b p0 p1 p2 p3]).length : Nat) : Int) = (ys.length : Int) + 1 := by simp
      rw [hyl] at hst
      rcases hv with ⟨rfl, rfl⟩ | ⟨hbs, j, hj, rfl, hjl⟩
      · rcases hp with rfl | rfl
        all_goals
          simp (config := { maxSteps := 10000000 }) (disch := omega) only [go_sem, simprocAttr, cc_k1, cc_k2, List.length_map, byA_len, ones_byA, ones_bytes, Nat.mul_one, hS, hT, tbH, hd, hxl, ap_get0, ap_set0, ap_getk, ap_setk, List.length_append, List.append_assoc, List.length_set, passK_shut CxP19, QK.use hf, passK_in CxB20 CxP20, passK_in CxB21 CxP21]
          rw [loop_norm (l := [4, 9, 10, 11]) rfl]
          simp (config := { maxSteps := 10000000 }) (disch := omega) only [go_sem, simprocAttr]
          refine hst _ _ _ (.inr rfl) ?_
          rw [ap_four]
          refine blT_new ?_ ?_ ?_ ?_ (hT := rfl)
          · simp
          · simp [hS]
          · simp
          · simp [byA]
      · obtain ⟨X, hX⟩ : ∃ X : Heap, List.set ((T : Heap) ++ [some (⟨84, [I8 q1, I8 q2, I8 q3, I8 q4, I8 q5, I8 q6, I8 q7, I8 q8, I8 q9, Bo b, I8 p0, I8 p1, I8 p2, I8 p3], true⟩ : Blk)]) j none = X := ⟨_, rfl⟩
        have hXl : X.length = T.length + 1 := by rw [← hX]; simp
        have gX : ∀ a l, (X ++ a :: l)[T.length + 1]? = some a := fun a l => by rw [← hXl]; exact ap_get0 _ _ _
        have sX : ∀ a y l, (X ++ a :: l).set (T.length + 1) y = X ++ y :: l := fun a y l => by rw [← hXl]; exact ap_set0 _ _ _ _
        have hB : List.take bs.length (byA bs) = byA bs := List.take_of_length_le (by simp [byA])
        have hB2 : List.take (bs.length + S.size) (byA bs ++ List.map (fun b => A.v (Value.int IntKind.u8 ↑b.toNat)) S.data.toList) = byA bs ++ List.map (fun b => A.v (Value.int IntKind.u8 ↑b.toNat)) S.data.toList := List.take_of_length_le (by simp [byA, hS])
        have gX2 : ∀ a b l, (X ++ a :: b :: l)[T.length + 2]? = some b := fun a b l => by
          have := ap_getk X (a :: b :: l) 1
          rw [hXl] at this
          exact this
        rcases hp with rfl | rfl
        all_goals
          simp (config := { maxSteps := 10000000 }) (disch := omega) only [go_sem, simprocAttr, cc_k1, cc_k2, List.length_map, byA_len, ones_byA, ones_bytes, Nat.mul_one, hS, hT, tbH, hd, hxl, ap_get0, ap_set0, ap_getk, ap_setk, List.length_append, List.append_assoc, List.length_set, passK_shut CxP19, QK.use hf, passK_in CxB20 CxP20, passK_in CxB21 CxP21, hjl, hX, hXl, gX, gX2, sX, hB, hB2]
          rw [loop_norm (l := [4, 9, 10, 11]) rfl]
          simp (config := { maxSteps := 10000000 }) (disch := omega) only [go_sem, simprocAttr]
          refine hst _ _ _ (.inr rfl) ?_
          rw [ap_three]
          refine blT_new ?_ ?_ ?_ ?_ (hT := rfl)
          · simp [hXl]
          · simp [hS, Nat.add_assoc]
          · simp
          · simp [byA]
theorem bytesOf_byA : ∀ l : List UInt8, bytesOf (byA l) = some l
  | [] => rfl
  | b :: l => by
    have h1 := bytesOf_byA l
    have h2 : (0 : Int) ≤ b.toNat ∧ (b.toNat : Int) < 256 := by have := b.toNat_lt; omega
    show bytesOf (.v (.int .u8 b.toNat) :: byA l) = _
    simp [bytesOf, h1, h2]
def TxA : Option (List UInt8) → A
  | some bs => .tup [Sv ⟨⟨bs⟩⟩, I64 0]
  | none => .tup [Sv ⟨⟨[]⟩⟩, I64 2]
set_option maxHeartbeats 1000000 in
theorem Text_ev {fm : List Value → ByteArray × Bool} {xs : List (List Value)} (hfm : FmOk fm xs) (hlen : xs.length ≤ 3000) : EvQ Cx 9 [slX xs] (TxA (txM fm xs [])) := by
  refine evQ_of CxB9 rfl (by simp [fn9]) ?_
  by_cases hxs : xs = []
  · subst hxs
    simp (config := { maxSteps := 10000000 }) (disch := omega) only [go_sem, simprocAttr, slX]
    rw [runK_loop]
    simp (config := { maxSteps := 10000000 }) (disch := omega) only [go_sem, simprocAttr, passK_in CxB22 CxP22]
    rfl
  · have hsl : slX xs = .sl xs.length (flatX xs) := by simp [slX, hxs]
    rw [hsl]
    simp (config := { maxSteps := 10000000 }) (disch := omega) only [go_sem, simprocAttr]
    rw [loop_norm (l := [4, 9, 10, 11]) rfl]
    simp (config := { maxSteps := 10000000 }) (disch := omega) only [go_sem, simprocAttr]
    refine text_loop hfm hlen xs [] [] (.v (.pointer none)) An [] rfl (by simp) (.inl rfl) (.inl ⟨rfl, rfl⟩) (fun bs h hl p v T hp hv => ?_) (fun h H => ?_)
    · rw [h]
      rcases hv with ⟨rfl, rfl⟩ | ⟨hbs, j, hj, rfl, hjl⟩
      · simp (config := { maxSteps := 10000000 }) (disch := omega) only [go_sem, simprocAttr, tbH, passK_in CxB22 CxP22]
        rfl
      · have hj0 := hjl []
        rw [List.append_nil] at hj0
        have hB : List.take bs.length (byA bs) = byA bs := List.take_of_length_le (by simp [byA])
        have hp : 0 < bs.length := List.length_pos_iff.2 hbs
        have hby := bytesOf_byA bs
        have hbl := byA_len bs
        generalize hn : bs.length = n at *
        obtain ⟨n, rfl⟩ : ∃ m, n = m + 1 := ⟨n - 1, by omega⟩
        simp (config := { maxSteps := 10000000 }) (disch := omega) only [go_sem, simprocAttr, tbH, hj0, hB, hby, hn, hbl, strOf, passK_in CxB22 CxP22]
        rfl
    · rw [h]
      simp (config := { maxSteps := 10000000 }) (disch := omega) only [go_sem, simprocAttr]
      rfl
end Go.Proofs.YtijpomemobgddaaGreatDoor.Ev
