/- strings.SplitN at blanks, at most 16 pieces. -/
import Derived.Test.YtijpomemobgddaaGreatDoorS3
set_option linter.unusedSimpArgs false
set_option linter.unusedVariables false
namespace Go.Proofs.YtijpomemobgddaaGreatDoor.Ev
open Go Go.RowKit
set_option maxRecDepth 100000
theorem sindex_ev (s : ByteArray) (c : UInt8) : EvQ Cx 152 [Sv s, Sv ⟨#[c]⟩] (I64 (idxB c.toNat s.data.toList 0)) := by
  refine evQ_of CxB152 rfl (by simp [fn152]) ?_
  simp (config := { maxSteps := 10000000 }) (disch := omega) only [go_sem, simprocAttr, passK_shut CxP97, QK.use (index_ev s c)]
def splitF : Nat → ByteArray → List ByteArray
  | 0, s => [s]
  | k + 1, s => if (cutA 32 s).2.2 then (cutA 32 s).1 :: splitF k (cutA 32 s).2.1 else [s]
theorem zSp : sSp.size = 1 := rfl
abbrev Se : A := Sv ⟨#[]⟩
theorem split_loop {c : M} {KK : List It} {Q : Ex → Ev.St → Prop} (hc : headKeep c = some [0, 9, 10]) (N : Nat) (hN : N ≤ 16) : ∀ (k : Nat) (s : ByteArray) (ws : List ByteArray), ws.length + k + 1 = N → s.size ≤ 2000 →
    (∀ (ws' : List ByteArray) (s' : ByteArray) (j : Nat), ws ++ splitF k s = ws' ++ [s'] → ws'.length + j + 1 = N → RunK Cx (.code c :: KK) ⟨[(0, Sv s'), (9, .ref 0 0 N 1), (10, I64 ws'.length)], [some ⟨9, ws'.map Sv ++ Se :: List.replicate j Se, true⟩]⟩ Q) →
    RunK Cx (.code (.loop m102_l0) :: .blk 0 :: .code c :: KK) ⟨[(0, Sv s), (1, Sv sSp), (2, I64 0), (3, I64 ((N : Int) - 1)), (9, .ref 0 0 N 1), (10, I64 ws.length)], [some ⟨9, ws.map Sv ++ Se :: List.replicate k Se, true⟩]⟩ Q := by
  intro k
  induction k with
  | zero =>
    intro s ws hk hs hfin
    have hx := hfin ws s 0 rfl hk
    rw [runK_loop]
    simp (config := { maxSteps := 10000000 }) (disch := omega) only [go_sem, simprocAttr]
    rw [head_norm c _ hc]
    simp (config := { maxSteps := 10000000 }) (disch := omega) only [go_sem, simprocAttr]
    exact hx
  | succ k ih =>
    intro s ws hk hs hfin
    have hq : EvQ Cx 152 [Sv s, Sv sSp] (I64 (idxB 32 s.data.toList 0)) := sindex_ev s 32
    have hl := idxB_lt 32 s.data.toList 0 (by omega)
    have hg := idxB_ge 32 s.data.toList 0 (by omega)
    rw [size_data] at hl
    by_cases hi : 0 ≤ idxB 32 s.data.toList 0
    · have hcut : cutA 32 s = (s.extract 0 (idxB 32 s.data.toList 0).toNat, s.extract ((idxB 32 s.data.toList 0).toNat + 1) s.size, true) := by unfold cutA; rw [if_pos hi]
      have hsp : splitF (k + 1) s = s.extract 0 (idxB 32 s.data.toList 0).toNat :: splitF k (s.extract ((idxB 32 s.data.toList 0).toNat + 1) s.size) := by simp only [splitF, hcut, if_true]
      rw [hsp] at hfin
      generalize idxB 32 s.data.toList 0 = i at *
      obtain ⟨n, rfl⟩ := Int.eq_ofNat_of_zero_le hi
      have hn : n < s.size := by omega
      simp only [Int.toNat_natCast] at hfin
      have t1 : ∀ (x : A) (zs : List A), List.take ws.length (ws.map Sv ++ x :: zs) = ws.map Sv := fun x zs => by rw [List.take_append_of_le_length (by simp)]; simp [List.take_of_length_le]
      have t2 : ∀ (x : A) (zs : List A), List.drop (ws.length + 1) (ws.map Sv ++ x :: zs) = zs := fun x zs => by
        have : ws.length + 1 = (ws.map Sv).length + 1 := by simp
        rw [this, List.drop_append]
        simp
      have hx := ih (s.extract (n + 1) s.size) (ws ++ [s.extract 0 n]) (by simp; omega) (by simp; omega) (fun ws' s' j h => hfin ws' s' j (by rw [← h]; simp))
      have hcell : (ws ++ [s.extract 0 n]).map Sv ++ Se :: List.replicate k Se = ws.map Sv ++ Sv (s.extract 0 n) :: List.replicate (k + 1) Se := by simp [List.replicate_succ]
      rw [hcell] at hx
      have hlen : (((ws ++ [s.extract 0 n]).length : Nat) : Int) = (ws.length : Int) + 1 := by simp
      rw [hlen] at hx
      rw [runK_loop]
      simp (config := { maxSteps := 10000000 }) (disch := omega) only [go_sem, simprocAttr, passK_shut CxP152, QK.use hq, t1, t2, zSp, Nat.mul_one, List.length_append, List.length_map, List.length_replicate]
      rw [loop_norm (l := [0, 1, 2, 3, 9, 10]) rfl]
      have hn0 : ((n : Int) + 0).toNat = n := by omega
      have hn1 : ((n : Int) + 1).toNat = n + 1 := by omega
      simp (config := { maxSteps := 10000000 }) (disch := omega) only [go_sem, simprocAttr, hn0, hn1, List.append_assoc]
      exact hx
    · have hcut : (cutA 32 s).2.2 = false := by unfold cutA; rw [if_neg hi]
      have hx := hfin ws s (k + 1) (by simp [splitF, hcut]) hk
      have hi' : idxB 32 s.data.toList 0 = -1 := by omega
      rw [runK_loop]
      simp (config := { maxSteps := 10000000 }) (disch := omega) only [go_sem, simprocAttr, passK_shut CxP152, QK.use hq, hi']
      rw [head_norm c _ hc]
      simp (config := { maxSteps := 10000000 }) (disch := omega) only [go_sem, simprocAttr]
      exact hx
theorem split_loop0 {c : M} {KK : List It} {Q : Ex → Ev.St → Prop} {m : Nat} {s : ByteArray} {x : Int} {L : List A} (hc : headKeep c = some [0, 9, 10]) (hm : m + 1 ≤ 16) (hs : s.size ≤ 2000) (hx : x = ((m + 1 : Nat) : Int) - 1) (hL : L = Se :: List.replicate m Se)
    (h : ∀ (ws' : List ByteArray) (s' : ByteArray) (j : Nat), splitF m s = ws' ++ [s'] → ws'.length + j + 1 = m + 1 → RunK Cx (.code c :: KK) ⟨[(0, Sv s'), (9, .ref 0 0 (m + 1) 1), (10, I64 ws'.length)], [some ⟨9, ws'.map Sv ++ Se :: List.replicate j Se, true⟩]⟩ Q) :
    RunK Cx (.code (.loop m102_l0) :: .blk 0 :: .code c :: KK) ⟨[(0, Sv s), (1, Sv sSp), (2, I64 0), (3, I64 x), (9, .ref 0 0 (m + 1) 1), (10, I64 0)], [some ⟨9, L, true⟩]⟩ Q := by
  subst hx
  subst hL
  exact split_loop hc (m + 1) hm m s [] (by simp) hs (fun ws' s' j h1 h2 => h ws' s' j (by simpa using h1) h2)
theorem zeros_rep (m : Nat) : zeros [.string ⟨⟨[]⟩⟩] m = List.replicate m Se := by
  induction m with
  | zero => rfl
  | succ m ih => rw [zeros, ih]; rfl
theorem fz_strs {H : Heap} {n : Nat} : ∀ xs : List ByteArray, mapO (freeze H (n + 1)) (xs.map Sv) = some (xs.map Sv)
  | [] => rfl
  | v :: vs => by
    rw [List.map_cons, mapO_cons, fz_v, fz_strs vs]
theorem split_ev {s : ByteArray} (hs : s.size ≤ 2000) : EvQ Cx 102 [Sv s, Sv sSp, I64 0, I64 16] (.sl (splitF (min 15 s.size) s).length ((splitF (min 15 s.size) s).map Sv)) := by
  refine evQ_of CxB102 rfl (by simp [fn102]) ?_
  have he : (sSp.toList == (⟨⟨[]⟩⟩ : ByteArray).toList) = false := by rw [ByteArray.toList_eq, ByteArray.toList_eq]; rfl
  obtain ⟨m, hm⟩ : ∃ m, m = min 15 s.size := ⟨_, rfl⟩
  have hN : (if (s.size : Int) + 1 < 16 then (s.size : Int) + 1 else 16) = ((m + 1 : Nat) : Int) := by split <;> omega
  rw [← hm]
  simp (config := { maxSteps := 10000000 }) (disch := omega) only [go_sem, simprocAttr, he, hN]
  rw [loop_norm (l := [0, 1, 2, 3, 9, 10]) rfl]
  simp (config := { maxSteps := 10000000 }) (disch := omega) only [go_sem, simprocAttr]
  refine split_loop0 rfl (by omega) hs (by omega) (by rw [zeros_rep]) (fun ws' s' j h1 h2 => ?_)
  have t1 : ∀ (x : A) (zs : List A), List.take ws'.length (ws'.map Sv ++ x :: zs) = ws'.map Sv := fun x zs => by rw [List.take_append_of_le_length (by simp)]; simp [List.take_of_length_le]
  have t2 : ∀ (x : A) (zs : List A), List.drop (ws'.length + 1) (ws'.map Sv ++ x :: zs) = zs := fun x zs => by
    have : ws'.length + 1 = (ws'.map Sv).length + 1 := by simp
    rw [this, List.drop_append]
    simp
  simp (config := { maxSteps := 10000000 }) (disch := omega) only [go_sem, simprocAttr, t1, t2, Nat.mul_one, List.length_append, List.length_map, List.length_replicate]
  have e1 : ((ws'.length : Int) + 1).toNat - 0 = (ws' ++ [s']).length := by simp
  have e2 : List.take (ws' ++ [s']).length (List.map Sv ws' ++ [A.v (Value.string s')] ++ List.replicate j Se) = (ws' ++ [s']).map Sv := by
    have : List.map Sv ws' ++ [A.v (Value.string s')] = (ws' ++ [s']).map Sv := by simp
    rw [this, List.take_append_of_le_length (by simp), List.take_of_length_le (by simp)]
  rw [e1, e2, fz_strs, h1]
  rfl
theorem splitN_ev {s : ByteArray} (hs : s.size ≤ 2000) : EvQ Cx 64 [Sv s, Sv sSp, I64 16] (.sl (splitF (min 15 s.size) s).length ((splitF (min 15 s.size) s).map Sv)) := by
  refine evQ_of CxB64 rfl (by simp [fn64]) ?_
  simp (config := { maxSteps := 10000000 }) (disch := omega) only [go_sem, simprocAttr, passK_shut CxP102, QK.use (split_ev hs)]
end Go.Proofs.YtijpomemobgddaaGreatDoor.Ev
