/- The law WalkReads. -/
import Derived.Test.YtijpomemobgddaaGreatDoorSB
import Derived.Test.YtijpomemobgddaaGreatDoorM5
set_option linter.unusedSimpArgs false
set_option linter.unusedVariables false
namespace Go.Proofs.YtijpomemobgddaaGreatDoor.Ev
open Go Go.RowKit
set_option maxRecDepth 100000
open Classical in
/-- What has been shown in another context. -/
noncomputable def XE (C : Ctx) (S : List Nat) (X : FuncId → List A → Option A) (f : FuncId) (l : List A) : Option A := if h : f ∈ S ∧ ∃ r, EvQ C f l r then some (Classical.choose h.2) else X f l
theorem XE_hit {C : Ctx} {S : List Nat} {X : FuncId → List A → Option A} {f : FuncId} {l : List A} {r : A} (hf : f ∈ S) (h : EvQ C f l r) : XE C S X f l = some r := by
  have hc : f ∈ S ∧ ∃ r, EvQ C f l r := ⟨hf, r, h⟩
  unfold XE
  rw [dif_pos hc]
  rw [h.one (Classical.choose_spec hc.2)]
theorem XE_miss {C : Ctx} {S : List Nat} {X : FuncId → List A → Option A} {f : FuncId} {l : List A} (hf : f ∉ S) : XE C S X f l = X f l := by
  unfold XE
  rw [dif_neg fun h => hf h.1]
theorem XE_ok {C : Ctx} {S : List Nat} {X : FuncId → List A → Option A} (hC : CtxOk Tryz.prog C) (hT : C.T = Cx.T) (hX : QOk Cx.T Tryz.prog X) : QOk Cx.T Tryz.prog (XE C S X) := by
  intro f l r h
  unfold XE at h
  split at h
  · rename_i hc
    obtain rfl := Option.some.inj h
    obtain ⟨N, hN⟩ := Classical.choose_spec hc.2
    have := (call_sound hC N).1 f l _ hN
    rw [hT] at this
    exact this
  · exact hX f l r h
def CA (X : FuncId → List A → Option A) : Ctx := ⟨Cx.T, Cx.B, X, fun _ => none⟩
theorem CA_ok {X : FuncId → List A → Option A} (h : QOk Cx.T Tryz.prog X) : CtxOk Tryz.prog (CA X) := ⟨CxOk.mixed, CxOk.types, CxOk.loops, CxOk.fns, h, fun _ _ _ _ _ _ h => by cases h⟩
theorem CA_T {X : FuncId → List A → Option A} : (CA X).T = Cx.T := rfl
noncomputable def XT : FuncId → List A → Option A := XE (CX X5) [5] (XE Cx [8, 9] fun _ _ => none)
theorem XT_ok : QOk Cx.T Tryz.prog XT := XE_ok (CX_ok X5_ok) rfl (XE_ok CxOk rfl qOk_none)
noncomputable def CT : Ctx := CA XT
theorem CT_B : CT.B 4 = some fn4 := CxB4
theorem CT_ok : CtxOk Tryz.prog CT := CA_ok XT_ok
theorem XT_at {f : FuncId} {l : List A} {r : A} (hf : f ∈ ([8, 9] : List FuncId)) (h0 : f ∉ ([5] : List FuncId)) (h : EvQ Cx f l r) : EvQ (CA XT) f l r := evQ_ext (by
  show XT f l = some r
  unfold XT
  rw [XE_miss h0]
  exact XE_hit hf h)
theorem XT_none (l : List A) : XT 4 l = none := by
  unfold XT
  rw [XE_miss (by decide), XE_miss (by decide)]
theorem scn_loop {s : ByteArray} {m : Nat} {v e : A} (hs : s.size ≤ 2000) (hm : m ≤ 3000) {KK : List It} {Q : Ex → Ev.St → Prop} : ∀ (l : List UInt8) (i line at' : Nat), s.data.toList.drop i = l → i ≤ s.size → line ≤ i + 1 → at' ≤ i →
    (∀ (line' at'' : Nat), scn m l i line at' = ((line' : Int), (at'' : Int)) → at'' ≤ s.size → ∀ env : Env, (look env 0 = some (Sv s) ∧ look env 3 = some v ∧ look env 4 = some (I64 m) ∧ look env 5 = some e ∧ look env 8 = some (I64 at'') ∧ look env 9 = some (I64 line')) → UnwK (CA XT) (.out 0) KK ⟨env, []⟩ Q) →
    RunK (CA XT) (.code (.loop m4_l0) :: KK) ⟨[(0, Sv s), (3, v), (4, I64 m), (5, e), (8, I64 at'), (9, I64 line), (10, I64 i)], []⟩ Q := by
  intro l
  induction l with
  | nil =>
    intro i line at' hl hi h1 h2 hE
    have hz : s.size ≤ i := by
      have := congrArg List.length hl
      rw [List.length_drop, size_data] at this
      simp at this
      omega
    rw [runK_loop]
    simp (config := { maxSteps := 10000000 }) (disch := omega) only [CA_T, go_sem, simprocAttr]
    exact hE line at' rfl (by omega) _ (by exact ⟨rfl, rfl, rfl, rfl, rfl, rfl⟩)
  | cons b l ih =>
    intro i line at' hl hi h1 h2 hE
    have hz : i < s.size := by
      have := congrArg List.length hl
      rw [List.length_drop, size_data] at this
      simp at this
      omega
    have hb : s[i]? = some b := by
      have h := congrArg (·[0]?) hl
      simp only [List.getElem?_drop, Nat.add_zero, List.getElem?_cons_zero] at h
      have h3 : s[i] = b := by
        have h4 := (List.getElem?_eq_some_iff.1 h).2
        rw [Array.getElem_toList] at h4
        exact h4
      rw [getElem?_pos s i hz, h3]
    have hd : s.data.toList.drop (i + 1) = l := by
      rw [← List.drop_drop, hl]
      rfl
    rw [runK_loop]
    by_cases hlm : line < m
    · by_cases hb10 : b = 10
      · have hbn : (b.toNat : Int) = 10 := by rw [hb10]; rfl
        have hst := ih (i + 1) (line + 1) (i + 1) hd (by omega) (by omega) (by omega) (fun line' at'' h => hE line' at'' (by rw [scn, if_pos (by omega), if_pos hb10]; exact h))
        simp only [Int.natCast_add, Int.cast_ofNat_Int] at hst
        simp (config := { maxSteps := 10000000 }) (disch := omega) only [CA_T, go_sem, simprocAttr, hb]
        rw [loop_norm (l := [0, 3, 4, 5, 8, 9, 10]) rfl]
        simp (config := { maxSteps := 10000000 }) (disch := omega) only [go_sem, simprocAttr]
        exact hst
      · have hbn : ¬ (b.toNat : Int) = 10 := fun h => hb10 (UInt8.toNat_inj.1 (by show b.toNat = 10; omega))
        have hst := ih (i + 1) line at' hd (by omega) (by omega) (by omega) (fun line' at'' h => hE line' at'' (by rw [scn, if_pos (by omega), if_neg hb10]; exact h))
        simp only [Int.natCast_add, Int.cast_ofNat_Int] at hst
        simp (config := { maxSteps := 10000000 }) (disch := omega) only [CA_T, go_sem, simprocAttr, hb]
        rw [loop_norm (l := [0, 3, 4, 5, 8, 9, 10]) rfl]
        simp (config := { maxSteps := 10000000 }) (disch := omega) only [go_sem, simprocAttr]
        exact hst
    · simp (config := { maxSteps := 10000000 }) (disch := omega) only [CA_T, go_sem, simprocAttr]
      exact hE line at' (by rw [scn, if_neg (by omega)]) (by omega) _ (by exact ⟨rfl, rfl, rfl, rfl, rfl, rfl⟩)
theorem cat_len : ∀ ps : List (List UInt8), ps.length ≤ (cat ps).length
  | [] => Nat.le_refl _
  | p :: ps => by
    have := cat_len ps
    rw [cat, List.length_cons, List.length_append, List.length_cons]
    omega
theorem sl_nil (xs : List (List Value)) : slX xs = An ∨ slX xs = .sl xs.length (flatX xs) := by
  unfold slX
  split
  · exact .inl rfl
  · exact .inr rfl
theorem WalkReads_ev {s : ByteArray} (hs : s.size ≤ maxLen) : EvQ CT 4 [Sv s] (Bo true) := by
  have y8 : EvQ (CA XT) 5 [] (bo true) := evQ_ext (XE_hit (by simp) awake_ev)
  refine evQ_of (C := CA XT) (m := fn4) CT_B (XT_none [Sv s]) (by simp [fn4]) ?_
  unfold maxLen at hs
  by_cases h2 : s.size ≤ 2000
  · obtain ⟨rd, hrd⟩ := rd_ex
    have y9 := XT_at (by simp) (by decide) (Read_ev hrd h2)
    obtain ⟨⟨t⟩⟩ := s
    have htl : t.length ≤ 2000 := h2
    rcases lp_cases rd t.length ⟨⟨t⟩⟩ [] 0 with ⟨xs, hx⟩ | ⟨m, hx⟩
    · change EvQ (CA XT) 8 _ (RdA (lp rd t.length ⟨⟨t⟩⟩ [] 0)) at y9
      rw [hx] at y9
      change EvQ (CA XT) 8 _ (.tup [slX xs, I64 0, I64 0]) at y9
      obtain ⟨zs, a1, a2, a3, a4⟩ := lp_ok rd t.length t [] 0 xs (Nat.le_refl _) hx
      rw [List.nil_append] at a2
      have hfm : FmOk fmE xs := by
        intro x hx
        rw [a2] at hx
        obtain ⟨z, hz, rfl⟩ := List.mem_map.1 hx
        obtain ⟨b1, b2⟩ := a1 z hz
        obtain ⟨c1, c2, c3⟩ := (hrd ⟨⟨z.1⟩⟩ (show z.1.length ≤ 2000 by omega)).2 z.2 b1
        rw [fmE_eq c3]
        refine ⟨c1, c3, show z.1.length ≤ 3000 by omega, fun _ => ?_⟩
        show 0 < z.1.length
        rcases Nat.eq_zero_or_pos z.1.length with h0 | h0
        · rw [List.eq_nil_of_length_eq_zero h0, rd_empty hrd] at b1
          cases b1
        · exact h0
      have y10 := XT_at (by simp) (by decide) (Text_ev hfm (by rw [a2, List.length_map]; omega))
      have htx : txM fmE xs [] = some t := by
        rw [a2, txM_zs, List.nil_append, ← a3]
        intro z hz
        obtain ⟨b1, b2⟩ := a1 z hz
        exact fmE_eq ((hrd ⟨⟨z.1⟩⟩ (show z.1.length ≤ 2000 by omega)).2 z.2 b1).2.2
      rw [htx] at y10
      change EvQ (CA XT) 9 _ (.tup [Sv ⟨⟨t⟩⟩, I64 0]) at y10
      rcases sl_nil xs with hsl | hsl
      all_goals
        rw [hsl] at y9 y10
        simp (config := { maxSteps := 10000000 }) (disch := omega) only [CA_T, passK_shut (C := CA XT) (f := 5) rfl, QK.use y8, passK_shut (C := CA XT) (f := 8) rfl, QK.use y9, passK_shut (C := CA XT) (f := 9) rfl, QK.use y10, go_sem, simprocAttr]
    · change EvQ (CA XT) 8 _ (RdA (lp rd t.length ⟨⟨t⟩⟩ [] 0)) at y9
      rw [hx] at y9
      change EvQ (CA XT) 8 _ (.tup [An, I64 m, I64 340]) at y9
      obtain ⟨ps, suf, a1, a2, a3, a4⟩ := lp_bad rd t.length t [] 0 m (Nat.le_refl _) hx
      have hl : t.length = (cat ps).length + suf.length := by rw [a1]; simp
      have hsuf : 0 < suf.length := List.length_pos_iff.2 a2
      have hpl : ps.length ≤ (cat ps).length := cat_len ps
      have hm : m ≤ 3000 := by omega
      have hscn := scn_cat m ps suf 0 1 0 (fun p hp => (a4 p hp).1) (by omega) (fun _ => rfl)
      obtain ⟨xs', hx'⟩ := lp_cat rd ps (cat ps).length [] 0 (Nat.le_refl _) a4
      have y10 := XT_at (by simp) (by decide) (Read_ev hrd (s := ⟨⟨cat ps⟩⟩) (show (cat ps).length ≤ 2000 by omega))
      change EvQ (CA XT) 8 _ (RdA (lp rd (cat ps).length ⟨⟨cat ps⟩⟩ [] 0)) at y10
      rw [hx'] at y10
      change EvQ (CA XT) 8 _ (.tup [slX xs', I64 0, I64 0]) at y10
      simp (config := { maxSteps := 10000000 }) (disch := omega) only [CA_T, passK_shut (C := CA XT) (f := 5) rfl, QK.use y8, passK_shut (C := CA XT) (f := 8) rfl, QK.use y9, go_sem, simprocAttr]
      rw [loop_norm (l := [0, 3, 4, 5, 8, 9, 10]) rfl]
      simp (config := { maxSteps := 10000000 }) (disch := omega) only [go_sem, simprocAttr]
      refine scn_loop h2 hm t 0 1 0 rfl (by omega) (by omega) (by omega) fun line' at' hsc hat env henv => ?_
      rw [a1] at hsc
      have hsc := hscn.symm.trans hsc
      have e1 : line' = m := by
        have := congrArg Prod.fst hsc
        simp at this
        omega
      have e2 : at' = (cat ps).length := by
        have := congrArg Prod.snd hsc
        simp at this
        omega
      subst e1
      subst e2
      have hext : (⟨⟨t⟩⟩ : ByteArray).extract 0 (cat ps).length = ⟨⟨cat ps⟩⟩ := by
        apply ByteArray.ext
        apply Array.ext'
        simp [ByteArray.data_extract, a1]
      obtain ⟨g0, g3, g4', g5, g8, g9⟩ := henv
      have y9 := y10
      have hk : (cat ps).length ≤ 2000 := by omega
      have hz : (⟨⟨t⟩⟩ : ByteArray).size = t.length := rfl
      simp (config := { maxSteps := 10000000 }) (disch := omega) only [CA_T, passK_shut (C := CA XT) (f := 5) rfl, QK.use y8, passK_shut (C := CA XT) (f := 8) rfl, QK.use y9, go_sem, simprocAttr, g0, g3, g4', g5, g8, g9, hext, hz]
  · simp (config := { maxSteps := 10000000 }) (disch := omega) only [CA_T, passK_shut (C := CA XT) (f := 5) rfl, QK.use y8, go_sem, simprocAttr]
end Go.Proofs.YtijpomemobgddaaGreatDoor.Ev
