/- The document's Parse: its main loop. -/
import Derived.Test.YtijpomemobgddaaGreatDoorN1
import Derived.Test.YtijpomemobgddaaGreatDoorSC
import Derived.Test.YtijpomemobgddaaGreatDoorOpen
set_option linter.unusedSimpArgs false
set_option linter.unusedVariables false
namespace Go.Proofs.YtijpomemobgddaaGreatDoor.Ev
open Go Go.RowKit
set_option maxRecDepth 100000
set_option maxHeartbeats 2000000 in
theorem main_loop {s : ByteArray} {ws : List ByteArray} {KK : List It} {Q : Ex → Ev.St → Prop} (hws : ws.length ≤ 2000) : ∀ (r pre : List ByteArray) (m : Mv), ws = pre ++ r → 2 ≤ pre.length →
    (∀ e : Env, look e 0 = some (Sv s) → look e 2 = some (.ptr 0 0) → look e 5 = some (.ptr 1 0) → UnwK Cx (.out 2) KK ⟨e, pH (foldR r m)⟩ Q) →
    RunK Cx (.code (.loop m60_l1) :: KK) ⟨[(0, Sv s), (2, .ptr 0 0), (4, .sl ws.length (ws.map Sv)), (5, .ptr 1 0), (7, I64 pre.length)], pH m⟩ Q := by
  intro r
  induction r with
  | nil =>
    intro pre m hp h2 hE
    have hl : ws.length = pre.length := by rw [hp]; simp
    rw [runK_loop]
    simp (config := { maxSteps := 10000000 }) (disch := omega) only [go_sem, simprocAttr]
    exact hE _ rfl rfl rfl
  | cons w r ih =>
    intro pre m hp h2 hE
    have hl : ws.length = pre.length + 1 + r.length := by rw [hp]; simp; omega
    have hd0 : List.drop pre.length (ws.map Sv) = Sv w :: r.map Sv := by rw [hp, drop_pre]; rfl
    have key : ∀ m', stR w r m = m' → RunK Cx (.code (.loop m60_l1) :: KK) ⟨[(0, Sv s), (2, .ptr 0 0), (4, .sl ws.length (ws.map Sv)), (5, .ptr 1 0), (7, I64 ((pre.length : Int) + 1))], pH m'⟩ Q := by
      intro m' hm
      subst hm
      have hst := ih (pre ++ [w]) (stR w r m) (by rw [hp]; simp) (by simp; omega) hE
      have hc : (((pre ++ [w]).length : Nat) : Int) = (pre.length : Int) + 1 := by simp
      rw [hc] at hst
      exact hst
    clear ih hE
    have hpl : ∀ q r', ws = pre ++ q ++ r' → List.drop (pre.length + q.length) (ws.map Sv) = r'.map Sv := by
      intro q r' h
      have := drop_pre (pre := pre ++ q) (r := r')
      rw [← h, List.length_append] at this
      exact this
    generalize hn : pre.length = n at *
    have n1 : ((n : Int) + 1).toNat = n + 1 := by omega
    have n2 : ((n : Int) + 2).toNat = n + 2 := by omega
    have n3 : ((n : Int) + 3).toNat = n + 3 := by omega
    have n4 : ((n : Int) + 4).toNat = n + 4 := by omega
    rw [runK_loop]
    by_cases h1 : w = sLine
    · have b1 := be_yes h1
      have hst := key { m with l := nxR r } (by unfold stR; rw [if_pos h1])
      cases r with
      | nil =>
        rw [List.length_nil] at hl
        simp (config := { maxSteps := 10000000 }) (disch := omega) only [go_sem, simprocAttr, pH, Mv.C, msgA, l_kind, l_line, l_asker, l_acks, l_alone, l_data, Nat.mul_one, hd0, b1]
        rw [loop_norm (l := [0, 2, 4, 5, 7]) rfl]; simp (config := { maxSteps := 10000000 }) (disch := omega) only [go_sem, simprocAttr]; exact hst
      | cons v r =>
        rw [List.length_cons] at hl
        have hd1 := hpl [w] (v :: r) (by rw [hp]; simp)
        simp only [List.length_cons, List.length_nil, List.map_cons] at hd1
        simp (config := { maxSteps := 10000000 }) (disch := omega) only [go_sem, simprocAttr, pH, Mv.C, msgA, l_kind, l_line, l_asker, l_acks, l_alone, l_data, Nat.mul_one, hd0, hd1, n1, passK_shut CxP96, QK.use (val_ev v), b1]
        rw [loop_norm (l := [0, 2, 4, 5, 7]) rfl]; simp (config := { maxSteps := 10000000 }) (disch := omega) only [go_sem, simprocAttr]; exact hst
    have b1 := be_no h1
    by_cases h2' : w = sAsker
    · have b2 := be_yes h2'
      have hst := key { m with a := nxR r } (by unfold stR; rw [if_neg h1, if_pos h2'])
      cases r with
      | nil =>
        rw [List.length_nil] at hl
        simp (config := { maxSteps := 10000000 }) (disch := omega) only [go_sem, simprocAttr, pH, Mv.C, msgA, l_kind, l_line, l_asker, l_acks, l_alone, l_data, Nat.mul_one, hd0, b1, b2]
        rw [loop_norm (l := [0, 2, 4, 5, 7]) rfl]; simp (config := { maxSteps := 10000000 }) (disch := omega) only [go_sem, simprocAttr]; exact hst
      | cons v r =>
        rw [List.length_cons] at hl
        have hd1 := hpl [w] (v :: r) (by rw [hp]; simp)
        simp only [List.length_cons, List.length_nil, List.map_cons] at hd1
        simp (config := { maxSteps := 10000000 }) (disch := omega) only [go_sem, simprocAttr, pH, Mv.C, msgA, l_kind, l_line, l_asker, l_acks, l_alone, l_data, Nat.mul_one, hd0, hd1, n1, passK_shut CxP96, QK.use (val_ev v), b1, b2]
        rw [loop_norm (l := [0, 2, 4, 5, 7]) rfl]; simp (config := { maxSteps := 10000000 }) (disch := omega) only [go_sem, simprocAttr]; exact hst
    have b2 := be_no h2'
    by_cases h3 : w = sAcks
    · have b3 := be_yes h3
      have hst := key { m with c := nxR r } (by unfold stR; rw [if_neg h1, if_neg h2', if_pos h3])
      cases r with
      | nil =>
        rw [List.length_nil] at hl
        simp (config := { maxSteps := 10000000 }) (disch := omega) only [go_sem, simprocAttr, pH, Mv.C, msgA, l_kind, l_line, l_asker, l_acks, l_alone, l_data, Nat.mul_one, hd0, b1, b2, b3]
        rw [loop_norm (l := [0, 2, 4, 5, 7]) rfl]; simp (config := { maxSteps := 10000000 }) (disch := omega) only [go_sem, simprocAttr]; exact hst
      | cons v r =>
        rw [List.length_cons] at hl
        have hd1 := hpl [w] (v :: r) (by rw [hp]; simp)
        simp only [List.length_cons, List.length_nil, List.map_cons] at hd1
        simp (config := { maxSteps := 10000000 }) (disch := omega) only [go_sem, simprocAttr, pH, Mv.C, msgA, l_kind, l_line, l_asker, l_acks, l_alone, l_data, Nat.mul_one, hd0, hd1, n1, passK_shut CxP96, QK.use (val_ev v), b1, b2, b3]
        rw [loop_norm (l := [0, 2, 4, 5, 7]) rfl]; simp (config := { maxSteps := 10000000 }) (disch := omega) only [go_sem, simprocAttr]; exact hst
    have b3 := be_no h3
    by_cases h4 : w = sAlone
    · have b4 := be_yes h4
      have hst := key { m with b := true } (by unfold stR; rw [if_neg h1, if_neg h2', if_neg h3, if_pos h4])
      cases r with
      | nil =>
        rw [List.length_nil] at hl
        simp (config := { maxSteps := 10000000 }) (disch := omega) only [go_sem, simprocAttr, pH, Mv.C, msgA, l_kind, l_line, l_asker, l_acks, l_alone, l_data, Nat.mul_one, hd0, b1, b2, b3, b4]
        rw [loop_norm (l := [0, 2, 4, 5, 7]) rfl]; simp (config := { maxSteps := 10000000 }) (disch := omega) only [go_sem, simprocAttr]; exact hst
      | cons v r =>
        rw [List.length_cons] at hl
        have hd1 := hpl [w] (v :: r) (by rw [hp]; simp)
        simp only [List.length_cons, List.length_nil, List.map_cons] at hd1
        simp (config := { maxSteps := 10000000 }) (disch := omega) only [go_sem, simprocAttr, pH, Mv.C, msgA, l_kind, l_line, l_asker, l_acks, l_alone, l_data, Nat.mul_one, hd0, hd1, n1, passK_shut CxP96, QK.use (val_ev v), b1, b2, b3, b4]
        rw [loop_norm (l := [0, 2, 4, 5, 7]) rfl]; simp (config := { maxSteps := 10000000 }) (disch := omega) only [go_sem, simprocAttr]; exact hst
    have b4 := be_no h4
    by_cases h5 : w = sData
    · have b5 := be_yes h5
      match r, hp, hl, key, hd0, hpl with
      | [], hp, hl, key, hd0, hpl =>
        rw [List.length_nil] at hl
        have hst := key m (by unfold stR; rw [if_neg h1, if_neg h2', if_neg h3, if_neg h4])
        simp (config := { maxSteps := 10000000 }) (disch := omega) only [go_sem, simprocAttr, pH, Mv.C, msgA, l_kind, l_line, l_asker, l_acks, l_alone, l_data, Nat.mul_one, hd0, b1, b2, b3, b4, b5]
        rw [loop_norm (l := [0, 2, 4, 5, 7]) rfl]; simp (config := { maxSteps := 10000000 }) (disch := omega) only [go_sem, simprocAttr]; exact hst
      | [v], hp, hl, key, hd0, hpl =>
        have hst := key m (by unfold stR; rw [if_neg h1, if_neg h2', if_neg h3, if_neg h4])
        have hd1 := hpl [w] [v] (by rw [hp]; simp)
        simp only [List.length_cons, List.length_nil, List.map_cons, List.map_nil] at hd1 hl
        simp (config := { maxSteps := 10000000 }) (disch := omega) only [go_sem, simprocAttr, pH, Mv.C, msgA, l_kind, l_line, l_asker, l_acks, l_alone, l_data, Nat.mul_one, hd0, hd1, n1, passK_shut CxP96, QK.use (val_ev v), b1, b2, b3, b4, b5]
        rw [loop_norm (l := [0, 2, 4, 5, 7]) rfl]; simp (config := { maxSteps := 10000000 }) (disch := omega) only [go_sem, simprocAttr]; exact hst
      | [v, v1], hp, hl, key, hd0, hpl =>
        have hst := key m (by unfold stR; rw [if_neg h1, if_neg h2', if_neg h3, if_neg h4])
        have hd1 := hpl [w] [v, v1] (by rw [hp]; simp)
        simp only [List.length_cons, List.length_nil, List.map_cons, List.map_nil] at hd1 hl
        simp (config := { maxSteps := 10000000 }) (disch := omega) only [go_sem, simprocAttr, pH, Mv.C, msgA, l_kind, l_line, l_asker, l_acks, l_alone, l_data, Nat.mul_one, hd0, hd1, n1, passK_shut CxP96, QK.use (val_ev v), b1, b2, b3, b4, b5]
        rw [loop_norm (l := [0, 2, 4, 5, 7]) rfl]; simp (config := { maxSteps := 10000000 }) (disch := omega) only [go_sem, simprocAttr]; exact hst
      | [v, v1, v2], hp, hl, key, hd0, hpl =>
        have hst := key m (by unfold stR; rw [if_neg h1, if_neg h2', if_neg h3, if_neg h4])
        have hd1 := hpl [w] [v, v1, v2] (by rw [hp]; simp)
        simp only [List.length_cons, List.length_nil, List.map_cons, List.map_nil] at hd1 hl
        simp (config := { maxSteps := 10000000 }) (disch := omega) only [go_sem, simprocAttr, pH, Mv.C, msgA, l_kind, l_line, l_asker, l_acks, l_alone, l_data, Nat.mul_one, hd0, hd1, n1, passK_shut CxP96, QK.use (val_ev v), b1, b2, b3, b4, b5]
        rw [loop_norm (l := [0, 2, 4, 5, 7]) rfl]; simp (config := { maxSteps := 10000000 }) (disch := omega) only [go_sem, simprocAttr]; exact hst
      | v :: v1 :: v2 :: v3 :: r, hp, hl, key, hd0, hpl =>
        have hst := key { m with d0 := valE v, d1 := valE v1, d2 := valE v2, d3 := valE v3 } (by unfold stR; rw [if_neg h1, if_neg h2', if_neg h3, if_neg h4]; exact if_pos h5)
        have hd1 := hpl [w] (v :: v1 :: v2 :: v3 :: r) (by rw [hp]; simp)
        have hd2 := hpl [w, v] (v1 :: v2 :: v3 :: r) (by rw [hp]; simp)
        have hd3 := hpl [w, v, v1] (v2 :: v3 :: r) (by rw [hp]; simp)
        have hd4 := hpl [w, v, v1, v2] (v3 :: r) (by rw [hp]; simp)
        simp only [List.length_cons, List.length_nil, List.map_cons] at hd1 hd2 hd3 hd4 hl
        simp (config := { maxSteps := 10000000 }) (disch := omega) only [go_sem, simprocAttr, pH, Mv.C, msgA, l_kind, l_line, l_asker, l_acks, l_alone, l_data, Nat.mul_one, hd0, hd1, n1, passK_shut CxP96, QK.use (val_ev v), b1, b2, b3, b4, b5, hd2, hd3, hd4, n2, n3, n4, QK.use (val_ev v1), QK.use (val_ev v2), QK.use (val_ev v3)]
        rw [loop_norm (l := [0, 2, 4, 5, 7]) rfl]; simp (config := { maxSteps := 10000000 }) (disch := omega) only [go_sem, simprocAttr]; exact hst
    have b5 := be_no h5
    have hsm : stR w r m = m := by
      unfold stR
      rw [if_neg h1, if_neg h2', if_neg h3, if_neg h4]
      split
      · exact if_neg h5
      · rfl
    have hst := key m hsm
    cases r with
    | nil =>
      rw [List.length_nil] at hl
      simp (config := { maxSteps := 10000000 }) (disch := omega) only [go_sem, simprocAttr, pH, Mv.C, msgA, l_kind, l_line, l_asker, l_acks, l_alone, l_data, Nat.mul_one, hd0, b1, b2, b3, b4, b5]
      rw [loop_norm (l := [0, 2, 4, 5, 7]) rfl]; simp (config := { maxSteps := 10000000 }) (disch := omega) only [go_sem, simprocAttr]; exact hst
    | cons v r =>
      rw [List.length_cons] at hl
      have hd1 := hpl [w] (v :: r) (by rw [hp]; simp)
      simp only [List.length_cons, List.length_nil, List.map_cons] at hd1
      simp (config := { maxSteps := 10000000 }) (disch := omega) only [go_sem, simprocAttr, pH, Mv.C, msgA, l_kind, l_line, l_asker, l_acks, l_alone, l_data, Nat.mul_one, hd0, hd1, n1, passK_shut CxP96, QK.use (val_ev v), b1, b2, b3, b4, b5]
      rw [loop_norm (l := [0, 2, 4, 5, 7]) rfl]; simp (config := { maxSteps := 10000000 }) (disch := omega) only [go_sem, simprocAttr]; exact hst
end Go.Proofs.YtijpomemobgddaaGreatDoor.Ev
namespace Go.Proofs.YtijpomemobgddaaGreatDoor.Ev
open Go Go.RowKit
set_option maxRecDepth 100000
def zMv (κ : Int) : Mv := ⟨κ, 0, 0, 0, 0, 0, false, 0, 0, 0, 0⟩
noncomputable def goR (w : ByteArray) (r : List ByteArray) (κ : Int) : Mv := match r with
  | [] => zMv (kN nmB 0 w κ)
  | v :: r2 => foldR r2 { zMv (kN nmB 0 w κ) with f := valE v, t := nxR r2 }
noncomputable def pR : List ByteArray → Mv
  | [] => zMv 0
  | [w] => goR w [] 0
  | w :: v :: r => if w = sKind then goR v r (valE v) else goR w (v :: r) 0
theorem kN_rng : ∀ (r : List ByteArray) (j : Nat) (w : ByteArray) (κ : Int), j + r.length ≤ 200 → 0 ≤ κ ∧ κ < 256 → 0 ≤ kN r j w κ ∧ kN r j w κ < 256
  | [], _, _, κ, _, h => h
  | nm :: r, j, w, κ, hj, h => by
    rw [List.length_cons] at hj
    have := kN_rng r (j + 1) w (if w = nm then (j : Int) + 1 else κ) (by omega) (by split <;> omega)
    rw [kN]
    simpa using this
theorem nx_rng (r : List ByteArray) : 0 ≤ nxR r ∧ nxR r < 256 := by
  cases r with
  | nil => simp [nxR]
  | cons v r => exact val_rng v
theorem stR_ok {w : ByteArray} {r : List ByteArray} {m : Mv} (h : m.Ok) : (stR w r m).Ok := by
  obtain ⟨a1, a2, a3, a4, a5, a6, a7, a8, a9, a10⟩ := h
  have hn := nx_rng r
  unfold stR
  split
  · exact ⟨a1, a2, a3, hn, a5, a6, a7, a8, a9, a10⟩
  · split
    · exact ⟨a1, a2, a3, a4, hn, a6, a7, a8, a9, a10⟩
    · split
      · exact ⟨a1, a2, a3, a4, a5, hn, a7, a8, a9, a10⟩
      · split
        · exact ⟨a1, a2, a3, a4, a5, a6, a7, a8, a9, a10⟩
        · split
          · split
            · exact ⟨a1, a2, a3, a4, a5, a6, val_rng _, val_rng _, val_rng _, val_rng _⟩
            · exact ⟨a1, a2, a3, a4, a5, a6, a7, a8, a9, a10⟩
          · exact ⟨a1, a2, a3, a4, a5, a6, a7, a8, a9, a10⟩
theorem foldR_ok : ∀ (r : List ByteArray) (m : Mv), m.Ok → (foldR r m).Ok
  | [], m, h => h
  | w :: r, m, h => foldR_ok r _ (stR_ok h)
theorem goR_ok {w : ByteArray} {r : List ByteArray} {κ : Int} (h : 0 ≤ κ ∧ κ < 256) : (goR w r κ).Ok := by
  have hk : 0 ≤ kN nmB 0 w κ ∧ kN nmB 0 w κ < 256 := kN_rng nmB 0 w κ (by decide) h
  have z : (0 : Int) ≤ 0 ∧ (0 : Int) < 256 := by omega
  unfold goR
  split
  · exact ⟨hk, z, z, z, z, z, z, z, z, z⟩
  · exact foldR_ok _ _ ⟨hk, val_rng _, nx_rng _, z, z, z, z, z, z, z⟩
theorem pR_ok (ws : List ByteArray) : (pR ws).Ok := by
  have z : (0 : Int) ≤ 0 ∧ (0 : Int) < 256 := by omega
  unfold pR
  split
  · exact ⟨z, z, z, z, z, z, z, z, z, z⟩
  · exact goR_ok z
  · split
    · exact goR_ok (val_rng _)
    · exact goR_ok z
theorem rtext_m {m : Mv} (h : m.Ok) : EvQ Cx 59 [.agg m.C] (Sv (joinB m.W)) := by
  obtain ⟨a1, a2, a3, a4, a5, a6, a7, a8, a9, a10⟩ := h
  exact rtext_ev a1 a2 a3 a4 a5 a6 a7 a8 a9 a10
def prA (m : Mv) (s : ByteArray) (c : Bool) : A := if c = true then .tup [.agg m.C, I64 0] else .tup [.agg mz, I64 170]
set_option maxHeartbeats 1000000 in
theorem rparse_ev {s : ByteArray} (hs : s.size ≤ 2000) : EvQ Cx 60 [Sv s] (prA (pR (wsN 1000 s.data.toList ⟨⟨[]⟩⟩)) s (decide (joinB (pR (wsN 1000 s.data.toList ⟨⟨[]⟩⟩)).W = s))) := by
  have hq := words_ev hs
  have hl := wsN_len 1000 s.data.toList ⟨⟨[]⟩⟩
  have hok := pR_ok (wsN 1000 s.data.toList ⟨⟨[]⟩⟩)
  refine evQ_of CxB60 rfl (by simp [fn60]) ?_
  generalize hm : pR (wsN 1000 s.data.toList ⟨⟨[]⟩⟩) = m at hok ⊢
  generalize wsN 1000 s.data.toList ⟨⟨[]⟩⟩ = ws at *
  have hx := rtext_m hok
  generalize joinB m.W = T at hx ⊢
  have hb : (T.toList == s.toList) = decide (T = s) := by
    by_cases he : T = s
    · rw [decide_eq_true he, be_yes he]
    · rw [decide_eq_false he, be_no he]
  generalize decide (T = s) = c at hb ⊢
  refine (fun (tail : ∀ (w : ByteArray) (r : List ByteArray) (κ : Int), r.length ≤ 1000 → goR w r κ = m → (?P : ByteArray → List ByteArray → Int → Prop) w r κ) => ?main) ?tp
  case main =>
    rcases ws with _ | ⟨w, _ | ⟨v, r⟩⟩
    rotate_left 2
    case cons.cons =>
      rw [pR] at hm
      simp only [List.length_cons] at hl hq
      rw [List.map_cons, List.map_cons] at hq
      have hv := val_ev v
      by_cases hw : w = sKind
      · rw [if_pos hw] at hm
        have hbw := be_yes hw
        generalize valE v = κ at hm hv
        have ht : List.take r.length (r.map Sv) = r.map Sv := List.take_of_length_le (by simp)
        simp (config := { maxSteps := 10000000 }) (disch := omega) only [go_sem, simprocAttr, Nat.mul_one, List.length_map, ht, passK_shut CxP95, QK.use hq, passK_shut CxP96, QK.use hv, l_kind, l_line, l_asker, l_acks, l_alone, l_data, hbw]
        rw [loop_norm (l := [0, 2, 4, 5, 6]) rfl]
        simp (config := { maxSteps := 10000000 }) (disch := omega) only [go_sem, simprocAttr]
        exact tail v r κ (by omega) hm
      · rw [if_neg hw] at hm
        have hbw := be_no hw
        simp (config := { maxSteps := 10000000 }) (disch := omega) only [go_sem, simprocAttr, passK_shut CxP95, QK.use hq, l_kind, l_line, l_asker, l_acks, l_alone, l_data, hbw]
        rw [loop_norm (l := [0, 2, 4, 5, 6]) rfl]
        simp (config := { maxSteps := 10000000 }) (disch := omega) only [go_sem, simprocAttr]
        exact tail w (v :: r) 0 (by simp; omega) hm
    case nil =>
      simp at hl
    case cons.nil =>
      rw [pR] at hm
      by_cases hw : w = sKind
      · have hbw := be_yes hw
        simp (config := { maxSteps := 10000000 }) (disch := omega) only [go_sem, simprocAttr, passK_shut CxP95, QK.use hq, l_kind, l_line, l_asker, l_acks, l_alone, l_data, hbw]
        rw [loop_norm (l := [0, 2, 4, 5, 6]) rfl]
        simp (config := { maxSteps := 10000000 }) (disch := omega) only [go_sem, simprocAttr]
        exact tail w [] 0 (by simp) hm
      · have hbw := be_no hw
        simp (config := { maxSteps := 10000000 }) (disch := omega) only [go_sem, simprocAttr, passK_shut CxP95, QK.use hq, l_kind, l_line, l_asker, l_acks, l_alone, l_data, hbw]
        rw [loop_norm (l := [0, 2, 4, 5, 6]) rfl]
        simp (config := { maxSteps := 10000000 }) (disch := omega) only [go_sem, simprocAttr]
        exact tail w [] 0 (by simp) hm
  case tp =>
    intro w r κ hr hm
    refine names_loop (m := zMv κ) nmB [] κ rfl fun e e0 e2 e4 e5 => ?_
    unfold goR at hm
    change UnwK Cx _ _ ⟨e, pH (zMv (kN nmB 0 w κ))⟩ _
    generalize hκ : kN nmB 0 w κ = κ' at hm ⊢
    rcases r with _ | ⟨v, r⟩
    · simp only at hm
      subst hm
      simp only [Mv.C, zMv, msgA] at hx
      simp (config := { maxSteps := 10000000 }) (disch := omega) only [go_sem, simprocAttr, e0, e2, e4, e5]
      rw [loop_norm (l := [0, 2, 4, 5, 7]) rfl]
      simp (config := { maxSteps := 10000000 }) (disch := omega) only [go_sem, simprocAttr]
      rw [runK_loop]
      cases c
      all_goals
        simp (config := { maxSteps := 10000000 }) (disch := omega) only [go_sem, simprocAttr, pH, Mv.C, zMv, msgA, passK_shut CxP59, QK.use hx, hb, mz, prA, Bool.false_eq_true]
    · simp only at hm
      have hv := val_ev v
      have hvr := val_rng v
      simp (config := { maxSteps := 10000000 }) (disch := omega) only [go_sem, simprocAttr, e0, e2, e4, e5]
      rw [loop_norm (l := [0, 2, 4, 5, 7]) rfl]
      simp (config := { maxSteps := 10000000 }) (disch := omega) only [go_sem, simprocAttr]
      rw [runK_loop]
      have n1 : (1 : Int).toNat = 1 := rfl
      have n2 : (2 : Int).toNat = 2 := rfl
      rcases r with _ | ⟨u, r⟩
      · simp (config := { maxSteps := 10000000 }) (disch := omega) only [go_sem, simprocAttr, pH, Mv.C, zMv, msgA, Nat.mul_one, passK_shut CxP96, QK.use hv]
        rw [loop_norm (l := [0, 2, 4, 5, 7]) rfl]
        simp (config := { maxSteps := 10000000 }) (disch := omega) only [go_sem, simprocAttr]
        refine main_loop (ws := [w, v]) (by simp) [] [w, v] { zMv κ' with f := valE v, t := nxR [] } rfl (by simp) fun e e0 e2 e5 => ?_
        rw [hm]
        simp only [Mv.C, msgA] at hx
        cases c
        all_goals
          simp (config := { maxSteps := 10000000 }) (disch := omega) only [go_sem, simprocAttr, pH, Mv.C, msgA, e0, e2, e5, passK_shut CxP59, QK.use hx, hb, mz, prA, Bool.false_eq_true]
      · have hu := val_ev u
        simp (config := { maxSteps := 10000000 }) (disch := omega) only [go_sem, simprocAttr, pH, Mv.C, zMv, msgA, Nat.mul_one, passK_shut CxP96, QK.use hv, QK.use hu]
        rw [loop_norm (l := [0, 2, 4, 5, 7]) rfl]
        simp (config := { maxSteps := 10000000 }) (disch := omega) only [go_sem, simprocAttr]
        refine main_loop (ws := w :: v :: u :: r) (by simp at hr ⊢; omega) (u :: r) [w, v] { zMv κ' with f := valE v, t := nxR (u :: r) } rfl (by simp) fun e e0 e2 e5 => ?_
        rw [hm]
        simp only [Mv.C, msgA] at hx
        cases c
        all_goals
          simp (config := { maxSteps := 10000000 }) (disch := omega) only [go_sem, simprocAttr, pH, Mv.C, msgA, e0, e2, e5, passK_shut CxP59, QK.use hx, hb, mz, prA, Bool.false_eq_true]
end Go.Proofs.YtijpomemobgddaaGreatDoor.Ev
namespace Go.Proofs.YtijpomemobgddaaGreatDoor.Ev
open Go Go.RowKit
set_option maxRecDepth 100000
def cw (w : ByteArray) : Prop := (32 : UInt8) ∉ w.data.toList ∧ (62 : UInt8) ∉ w.data.toList
theorem wsR_end : ∀ (l : List UInt8) (cur : ByteArray), (32 : UInt8) ∉ l → (62 : UInt8) ∉ l → wsR l cur = [cur ++ ⟨⟨l⟩⟩]
  | [], cur, _, _ => by
    rw [wsR]
    congr 1
    exact ba_ext (by simp)
  | b :: l, cur, h1, h2 => by
    have hb : ¬ (b = 32 ∨ b = 62) := fun h => by
      rcases h with rfl | rfl
      · exact h1 (.head _)
      · exact h2 (.head _)
    rw [wsR, if_neg hb, wsR_end l _ (fun h => h1 (.tail _ h)) (fun h => h2 (.tail _ h))]
    congr 1
    exact ba_ext (by simp)
theorem wsR_at {c : UInt8} (hc : c = 32 ∨ c = 62) : ∀ (l r : List UInt8) (cur : ByteArray), (32 : UInt8) ∉ l → (62 : UInt8) ∉ l → wsR (l ++ c :: r) cur = (cur ++ ⟨⟨l⟩⟩) :: wsR r ⟨⟨[]⟩⟩
  | [], r, cur, _, _ => by
    rw [List.nil_append, wsR, if_pos hc]
    congr 1
    exact ba_ext (by simp)
  | b :: l, r, cur, h1, h2 => by
    have hb : ¬ (b = 32 ∨ b = 62) := fun h => by
      rcases h with rfl | rfl
      · exact h1 (.head _)
      · exact h2 (.head _)
    rw [List.cons_append, wsR, if_neg hb, wsR_at hc l r _ (fun h => h1 (.tail _ h)) (fun h => h2 (.tail _ h))]
    congr 1
    exact ba_ext (by simp)
theorem be_app (w : ByteArray) : (⟨⟨[]⟩⟩ : ByteArray) ++ ⟨⟨w.data.toList⟩⟩ = w := ba_ext (by simp)
theorem wsR_w {w : ByteArray} (h : cw w) : wsR w.data.toList ⟨⟨[]⟩⟩ = [w] := by rw [wsR_end _ _ h.1 h.2, be_app]
theorem wsR_sp {w r : ByteArray} (h : cw w) : wsR (w ++ sSp ++ r).data.toList ⟨⟨[]⟩⟩ = w :: wsR r.data.toList ⟨⟨[]⟩⟩ := by
  have e : (w ++ sSp ++ r).data.toList = w.data.toList ++ 32 :: r.data.toList := by simp [sSp]
  rw [e, wsR_at (.inl rfl) _ _ _ h.1 h.2, be_app]
theorem wsR_gt {w r : ByteArray} (h : cw w) : wsR (w ++ sGt ++ r).data.toList ⟨⟨[]⟩⟩ = w :: wsR r.data.toList ⟨⟨[]⟩⟩ := by
  have e : (w ++ sGt ++ r).data.toList = w.data.toList ++ 62 :: r.data.toList := by simp [sGt]
  rw [e, wsR_at (.inr rfl) _ _ _ h.1 h.2, be_app]
theorem wsR_join : ∀ ws : List ByteArray, ws ≠ [] → (∀ w ∈ ws, cw w) → wsR (joinB ws).data.toList ⟨⟨[]⟩⟩ = ws
  | [], h, _ => absurd rfl h
  | [w], _, h => by rw [joinB_one, wsR_w (h w (.head _))]
  | w :: v :: ws, _, h => by rw [joinB_cons, wsR_sp (h w (.head _)), wsR_join (v :: ws) (by simp) fun x hx => h x (.tail _ hx)]
theorem wsR_app : ∀ (a b : List ByteArray), a ≠ [] → b ≠ [] → (∀ w ∈ a, cw w) → wsR (joinB (a ++ b)).data.toList ⟨⟨[]⟩⟩ = a ++ wsR (joinB b).data.toList ⟨⟨[]⟩⟩
  | [], _, h, _, _ => absurd rfl h
  | [w], b, _, hb, h => by rw [joinB_app _ _ (by simp) hb, joinB_one, wsR_sp (h w (.head _))]; rfl
  | w :: v :: a, b, _, hb, h => by
    have ih := wsR_app (v :: a) b (by simp) hb fun x hx => h x (.tail _ hx)
    rw [List.cons_append, List.cons_append, joinB_cons, wsR_sp (h w (.head _)), ← List.cons_append, ih]
    rfl
theorem cw_dig {n : Int} (h : 0 ≤ n ∧ n < 256) : cw (digB n) := ⟨dig_no h 32 (by decide), dig_no h 62 (by decide)⟩
theorem cw_lit : cw sKind ∧ cw sLine ∧ cw sAsker ∧ cw sAcks ∧ cw sAlone ∧ cw sData := ⟨⟨by decide, by decide⟩, ⟨by decide, by decide⟩, ⟨by decide, by decide⟩, ⟨by decide, by decide⟩, ⟨by decide, by decide⟩, ⟨by decide, by decide⟩⟩
theorem cw_name {k : Int} (h : 1 ≤ k ∧ k ≤ 12) : cw (nameF k) := by
  have h13 : k = 1 ∨ k = 2 ∨ k = 3 ∨ k = 4 ∨ k = 5 ∨ k = 6 ∨ k = 7 ∨ k = 8 ∨ k = 9 ∨ k = 10 ∨ k = 11 ∨ k = 12 := by omega
  rcases h13 with rfl | rfl | rfl | rfl | rfl | rfl | rfl | rfl | rfl | rfl | rfl | rfl <;> exact ⟨by decide, by decide⟩
def kwB (w : ByteArray) : Bool := w.data.toList.any fun b => Nat.blt 57 b.toNat
theorem dig_ne {n : Int} (h : 0 ≤ n ∧ n < 256) {w : ByteArray} (hw : kwB w = true) : ¬ digB n = w := fun e => by
  subst e
  obtain ⟨b, hb, h2⟩ := List.any_eq_true.1 hw
  have := dig_mem h hb
  rw [Nat.blt_eq] at h2
  omega
theorem kw_lit : kwB sKind = true ∧ kwB sLine = true ∧ kwB sAsker = true ∧ kwB sAcks = true ∧ kwB sAlone = true ∧ kwB sData = true := by decide
theorem kw_names : ∀ nm ∈ nmB, kwB nm = true := by
  have : nmB.all kwB = true := by kernel_rfl
  exact List.all_eq_true.1 this
theorem st_dig {n : Int} (h : 0 ≤ n ∧ n < 256) (r : List ByteArray) (m : Mv) : stR (digB n) r m = m := by
  obtain ⟨-, k2, k3, k4, k5, k6⟩ := kw_lit
  unfold stR
  rw [if_neg (dig_ne h k2), if_neg (dig_ne h k3), if_neg (dig_ne h k4), if_neg (dig_ne h k5)]
  split
  · exact if_neg (dig_ne h k6)
  · rfl
theorem kN_none : ∀ (r : List ByteArray) (j : Int) (w : ByteArray) (κ : Int), (∀ nm ∈ r, ¬ w = nm) → kN r j w κ = κ
  | [], _, _, _, _ => rfl
  | nm :: r, j, w, κ, h => by rw [kN, if_neg (h nm (.head _)), kN_none r _ _ _ fun x hx => h x (.tail _ hx)]
theorem kN_dig {n : Int} (h : 0 ≤ n ∧ n < 256) (κ : Int) : kN nmB 0 (digB n) κ = κ := kN_none _ _ _ _ fun nm hn => dig_ne h (kw_names nm hn)
theorem kN_name {k : Int} (h : 1 ≤ k ∧ k ≤ 12) (κ : Int) : kN nmB 0 (nameF k) κ = k := by
  have h13 : k = 1 ∨ k = 2 ∨ k = 3 ∨ k = 4 ∨ k = 5 ∨ k = 6 ∨ k = 7 ∨ k = 8 ∨ k = 9 ∨ k = 10 ∨ k = 11 ∨ k = 12 := by omega
  rcases h13 with rfl | rfl | rfl | rfl | rfl | rfl | rfl | rfl | rfl | rfl | rfl | rfl <;> rfl
theorem name_kind {k : Int} (h : 1 ≤ k ∧ k ≤ 12) : ¬ nameF k = sKind := by
  have h13 : k = 1 ∨ k = 2 ∨ k = 3 ∨ k = 4 ∨ k = 5 ∨ k = 6 ∨ k = 7 ∨ k = 8 ∨ k = 9 ∨ k = 10 ∨ k = 11 ∨ k = 12 := by omega
  rcases h13 with rfl | rfl | rfl | rfl | rfl | rfl | rfl | rfl | rfl | rfl | rfl | rfl <;> decide
theorem foldA {a : Int} (h : 0 ≤ a ∧ a < 256) (R : List ByteArray) (m : Mv) (hm : m.a = 0) : foldR (optA a ++ R) m = foldR R { m with a := a } := by
  unfold optA
  split
  · rename_i h0
    subst h0
    rw [List.nil_append]
    congr 1
    cases m
    simp at hm
    simp [hm]
  · rw [List.cons_append, List.cons_append, List.nil_append, foldR, foldR, st_dig h]
    have : stR sAsker (digB a :: R) m = { m with a := a } := by
      unfold stR
      rw [if_neg (by decide), if_pos rfl]
      simp [nxR, val_dig h]
    rw [this]
theorem foldC {a : Int} (h : 0 ≤ a ∧ a < 256) (R : List ByteArray) (m : Mv) (hm : m.c = 0) : foldR (optC a ++ R) m = foldR R { m with c := a } := by
  unfold optC
  split
  · rename_i h0
    subst h0
    rw [List.nil_append]
    congr 1
    cases m
    simp at hm
    simp [hm]
  · rw [List.cons_append, List.cons_append, List.nil_append, foldR, foldR, st_dig h]
    have : stR sAcks (digB a :: R) m = { m with c := a } := by
      unfold stR
      rw [if_neg (by decide), if_neg (by decide), if_pos rfl]
      simp [nxR, val_dig h]
    rw [this]
theorem foldB {b : Bool} (R : List ByteArray) (m : Mv) (hm : m.b = false) : foldR (optB b ++ R) m = foldR R { m with b := b } := by
  cases b with
  | false =>
    show foldR R m = _
    congr 1
    cases m
    simp at hm
    simp [hm]
  | true =>
    show foldR (sAlone :: R) m = _
    rw [foldR]
    have : stR sAlone R m = { m with b := true } := by
      unfold stR
      rw [if_neg (by decide), if_neg (by decide), if_neg (by decide), if_pos rfl]
    rw [this]
theorem foldD {d0 d1 d2 d3 : Int} (h0 : 0 ≤ d0 ∧ d0 < 256) (h1 : 0 ≤ d1 ∧ d1 < 256) (h2 : 0 ≤ d2 ∧ d2 < 256) (h3 : 0 ≤ d3 ∧ d3 < 256) (m : Mv) (hm : m.d0 = 0 ∧ m.d1 = 0 ∧ m.d2 = 0 ∧ m.d3 = 0) : foldR (optD d0 d1 d2 d3) m = { m with d0 := d0, d1 := d1, d2 := d2, d3 := d3 } := by
  unfold optD
  split
  · rename_i hz
    simp only [Bool.and_eq_true, beq_iff_eq] at hz
    obtain ⟨rfl, rfl, rfl, rfl⟩ := hz
    rw [foldR]
    cases m
    simp at hm
    simp [hm]
  · rw [foldR, foldR, foldR, foldR, foldR, foldR, st_dig h0, st_dig h1, st_dig h2, st_dig h3]
    unfold stR
    rw [if_neg (by decide), if_neg (by decide), if_neg (by decide), if_neg (by decide)]
    simp [val_dig h0, val_dig h1, val_dig h2, val_dig h3]
theorem pR_words {m : Mv} (h : m.Ok) : pR (wsR (joinB m.W).data.toList ⟨⟨[]⟩⟩) = m := by
  obtain ⟨k, f, t, l, a, c, b, d0, d1, d2, d3⟩ := m
  obtain ⟨hk, hf, ht, hl, ha, hc, h0, h1, h2, h3⟩ := h
  have hcK : ∀ w ∈ hdK k, cw w := by
    unfold hdK
    split
    · intro w hw
      simp only [List.mem_cons, List.not_mem_nil, or_false] at hw
      rcases hw with rfl | rfl
      · exact cw_lit.1
      · exact cw_dig hk
    · rename_i hcl
      intro w hw
      rw [List.mem_singleton.1 hw]
      exact cw_name (cls_kind hcl)
  have hcR : ∀ w ∈ sLine :: digB l :: (optA a ++ (optC c ++ (optB b ++ optD d0 d1 d2 d3))), cw w := by
    intro w hw
    simp only [List.mem_cons, List.mem_append] at hw
    rcases hw with rfl | rfl | hw | hw | hw | hw
    · exact cw_lit.2.1
    · exact cw_dig hl
    · unfold optA at hw
      split at hw
      · cases hw
      · simp only [List.mem_cons, List.not_mem_nil, or_false] at hw
        rcases hw with rfl | rfl
        · exact cw_lit.2.2.1
        · exact cw_dig ha
    · unfold optC at hw
      split at hw
      · cases hw
      · simp only [List.mem_cons, List.not_mem_nil, or_false] at hw
        rcases hw with rfl | rfl
        · exact cw_lit.2.2.2.1
        · exact cw_dig hc
    · unfold optB at hw
      split at hw
      · rw [List.mem_singleton.1 hw]
        exact cw_lit.2.2.2.2.1
      · cases hw
    · unfold optD at hw
      split at hw
      · cases hw
      · simp only [List.mem_cons, List.not_mem_nil, or_false] at hw
        rcases hw with rfl | rfl | rfl | rfl | rfl
        · exact cw_lit.2.2.2.2.2
        · exact cw_dig h0
        · exact cw_dig h1
        · exact cw_dig h2
        · exact cw_dig h3
  have hW : wsR (joinB (wordsM k f t l a c b d0 d1 d2 d3)).data.toList ⟨⟨[]⟩⟩ = hdK k ++ digB f :: digB t :: sLine :: digB l :: (optA a ++ (optC c ++ (optB b ++ optD d0 d1 d2 d3))) := by
    rw [words_eq, wsR_app _ _ (hdK_ne k) (by simp) hcK, joinB_cons]
    have e : digB f ++ sGt ++ digB t ++ sSp ++ joinB (sLine :: digB l :: (optA a ++ (optC c ++ (optB b ++ optD d0 d1 d2 d3)))) = digB f ++ sGt ++ (digB t ++ sSp ++ joinB (sLine :: digB l :: (optA a ++ (optC c ++ (optB b ++ optD d0 d1 d2 d3))))) := by
      simp only [ByteArray.append_assoc]
    rw [e, wsR_gt (cw_dig hf), wsR_sp (cw_dig ht), wsR_join _ (by simp) hcR]
  have hgo : ∀ w κ, kN nmB 0 w κ = k → goR w (digB f :: digB t :: sLine :: digB l :: (optA a ++ (optC c ++ (optB b ++ optD d0 d1 d2 d3)))) κ = ⟨k, f, t, l, a, c, b, d0, d1, d2, d3⟩ := by
    intro w κ hκ
    unfold goR
    simp only [hκ, nxR, val_dig hf, val_dig ht]
    rw [foldR, st_dig ht, foldR]
    have : stR sLine (digB l :: (optA a ++ (optC c ++ (optB b ++ optD d0 d1 d2 d3)))) { zMv k with f := f, t := t } = { zMv k with f := f, t := t, l := l } := by
      unfold stR
      rw [if_pos rfl]
      simp [nxR, val_dig hl]
    rw [this, foldR, st_dig hl, foldA ha _ _ rfl, foldC hc _ _ rfl, foldB _ _ rfl, foldD h0 h1 h2 h3 _ ⟨rfl, rfl, rfl, rfl⟩]
    rfl
  show pR (wsR (joinB (wordsM k f t l a c b d0 d1 d2 d3)).data.toList ⟨⟨[]⟩⟩) = _
  rw [hW]
  unfold hdK
  split
  · rw [List.cons_append, List.cons_append, List.nil_append, pR, if_pos rfl]
    exact hgo _ _ (by rw [kN_dig hk, val_dig hk])
  · rename_i hcl
    have hk' := cls_kind hcl
    rw [List.cons_append, List.nil_append, pR, if_neg (name_kind hk')]
    exact hgo _ _ (kN_name hk' _)
theorem rparse_c {m : Mv} (h : m.Ok) : EvQ Cx 60 [Sv (joinB m.W)] (.tup [.agg m.C, I64 0]) := by
  have hz : (joinB m.W).size ≤ 1000 := joinW_size h.1 h.2.1 h.2.2.1 h.2.2.2.1 h.2.2.2.2.1 h.2.2.2.2.2.1 h.2.2.2.2.2.2.1 h.2.2.2.2.2.2.2.1 h.2.2.2.2.2.2.2.2.1 h.2.2.2.2.2.2.2.2.2
  have h1 := rparse_ev (s := joinB m.W) (by omega)
  rw [wsN_eq 1000 (joinB m.W).data.toList ⟨⟨[]⟩⟩ hz, pR_words h, decide_eq_true rfl] at h1
  exact h1
end Go.Proofs.YtijpomemobgddaaGreatDoor.Ev
namespace Go.Proofs.YtijpomemobgddaaGreatDoor.Ev
open Go Go.RowKit
set_option maxRecDepth 100000
theorem q_core : (⟨⟨[⟨99#8⟩, ⟨111#8⟩, ⟨114#8⟩, ⟨101#8⟩, ⟨32#8⟩]⟩⟩ : ByteArray) = sCore ++ sSp := rfl
theorem q_drain : (⟨⟨[⟨100#8⟩, ⟨114#8⟩, ⟨97#8⟩, ⟨105#8⟩, ⟨110#8⟩, ⟨32#8⟩]⟩⟩ : ByteArray) = sDrain ++ sSp := rfl
theorem q_try : (⟨⟨[⟨116#8⟩, ⟨114#8⟩, ⟨121#8⟩, ⟨32#8⟩]⟩⟩ : ByteArray) = sTry ++ sSp := rfl
theorem q_evict : (⟨⟨[⟨101#8⟩, ⟨118#8⟩, ⟨105#8⟩, ⟨99#8⟩, ⟨116#8⟩, ⟨32#8⟩]⟩⟩ : ByteArray) = sEvict ++ sSp := rfl
theorem q_msg : (⟨⟨[⟨109#8⟩, ⟨115#8⟩, ⟨103#8⟩, ⟨32#8⟩]⟩⟩ : ByteArray) = sMsg ++ sSp := rfl
theorem q_sp : (⟨⟨[⟨32#8⟩]⟩⟩ : ByteArray) = sSp := rfl
theorem zSp' : sSp.size = 1 := rfl
theorem rln_all {k n l k' f t l' a c d0 d1 d2 d3 : Int} {b : Bool} (hk : 0 ≤ k ∧ k < 256) (hn : 0 ≤ n ∧ n < 256) (hl : 0 ≤ l ∧ l < 256) (hk' : 0 ≤ k' ∧ k' < 256) (hf : 0 ≤ f ∧ f < 256) (ht : 0 ≤ t ∧ t < 256) (hl' : 0 ≤ l' ∧ l' < 256) (ha : 0 ≤ a ∧ a < 256) (hc : 0 ≤ c ∧ c < 256) (h0 : 0 ≤ d0 ∧ d0 < 256) (h1 : 0 ≤ d1 ∧ d1 < 256) (h2 : 0 ≤ d2 ∧ d2 < 256) (h3 : 0 ≤ d3 ∧ d3 < 256) : ∃ r, EvQ Cx 32 [stA k n l (msgA k' f t l' a c b d0 d1 d2 d3)] r ∧ LnR (lnS k n l k' f t l' a c b d0 d1 d2 d3) r := by
  have hd := (rn_ev hn).1
  have hs := digB_size (n := n) (by omega)
  have hd' := (rn_ev hl).1
  have hs' := digB_size (n := l) (by omega)
  have hk5 : k = 1 ∨ k = 2 ∨ k = 3 ∨ k = 4 ∨ k = 5 ∨ (k = 0 ∨ 6 ≤ k) := by omega
  have hz := joinW_size (b := b) hk' hf ht hl' ha hc h0 h1 h2 h3
  have hx := rtext_ev (b := b) hk' hf ht hl' ha hc h0 h1 h2 h3
  have z3 := fun k => tx_size (k := k) hn (l := 0) (by omega)
  have z4 := tx_size (k := 4) hn hl
  rcases hk5 with rfl | rfl | rfl | rfl | rfl | hk5
  · have : EvQ Cx 32 [stA 1 n l (msgA k' f t l' a c b d0 d1 d2 d3)] (.tup [Sv (txS 1 n 0), Bo (l == 0 && mzB k' f t l' a c b d0 d1 d2 d3)]) := by
      refine evQ_of CxB32 rfl (by simp [fn32]) ?_
      simp (config := { maxSteps := 10000000 }) (disch := omega) only [go_sem, simprocAttr, stA, msgA, q_core, q_drain, q_try, q_evict, q_msg, q_sp, zSp', passK_shut CxP58, QK.use hd, QK.use hd']
      rfl
    exact ⟨_, this, _, _, rfl, by have := z3 1; omega, by simp [lnS], fun _ => tx_pos hn⟩
  · have : EvQ Cx 32 [stA 2 n l (msgA k' f t l' a c b d0 d1 d2 d3)] (.tup [Sv (txS 2 n 0), Bo (l == 0 && mzB k' f t l' a c b d0 d1 d2 d3)]) := by
      refine evQ_of CxB32 rfl (by simp [fn32]) ?_
      simp (config := { maxSteps := 10000000 }) (disch := omega) only [go_sem, simprocAttr, stA, msgA, q_core, q_drain, q_try, q_evict, q_msg, q_sp, zSp', passK_shut CxP58, QK.use hd, QK.use hd']
      rfl
    exact ⟨_, this, _, _, rfl, by have := z3 2; omega, by simp [lnS], fun _ => tx_pos hn⟩
  · have : EvQ Cx 32 [stA 3 n l (msgA k' f t l' a c b d0 d1 d2 d3)] (.tup [Sv (txS 3 n 0), Bo (l == 0 && mzB k' f t l' a c b d0 d1 d2 d3)]) := by
      refine evQ_of CxB32 rfl (by simp [fn32]) ?_
      simp (config := { maxSteps := 10000000 }) (disch := omega) only [go_sem, simprocAttr, stA, msgA, q_core, q_drain, q_try, q_evict, q_msg, q_sp, zSp', passK_shut CxP58, QK.use hd, QK.use hd']
      rfl
    exact ⟨_, this, _, _, rfl, by have := z3 3; omega, by simp [lnS], fun _ => tx_pos hn⟩
  · have : EvQ Cx 32 [stA 4 n l (msgA k' f t l' a c b d0 d1 d2 d3)] (.tup [Sv (txS 4 n l), Bo (mzB k' f t l' a c b d0 d1 d2 d3)]) := by
      refine evQ_of CxB32 rfl (by simp [fn32]) ?_
      simp (config := { maxSteps := 10000000 }) (disch := omega) only [go_sem, simprocAttr, stA, msgA, q_core, q_drain, q_try, q_evict, q_msg, q_sp, zSp', passK_shut CxP58, QK.use hd, QK.use hd']
      rfl
    exact ⟨_, this, _, _, rfl, by omega, by simp [lnS], fun _ => tx_pos hn⟩
  · have zm : sMsg.size = 3 ∧ sSp.size = 1 := by decide
    generalize hS : joinB (wordsM k' f t l' a c b d0 d1 d2 d3) = S at *
    have : EvQ Cx 32 [stA 5 n l (msgA k' f t l' a c b d0 d1 d2 d3)] (.tup [Sv (sMsg ++ sSp ++ S), Bo (n == 0 && l == 0)]) := by
      refine evQ_of CxB32 rfl (by simp [fn32]) ?_
      unfold msgA at hx
      simp (config := { maxSteps := 10000000 }) (disch := omega) only [go_sem, simprocAttr, stA, msgA, q_core, q_drain, q_try, q_evict, q_msg, q_sp, zSp', passK_shut CxP58, QK.use hd, QK.use hd', passK_shut CxP59, QK.use hx]
    refine ⟨_, this, _, _, rfl, by simp only [ByteArray.size_append]; omega, ?_, fun _ => by simp only [ByteArray.size_append]; omega⟩
    rw [← hS]
    simp [lnS]
  · refine ⟨.tup [Sv ⟨⟨[]⟩⟩, Bo false], ?_, _, _, rfl, by decide, ?_, fun h => by cases h⟩
    · refine evQ_of CxB32 rfl (by simp [fn32]) ?_
      simp (config := { maxSteps := 10000000 }) (disch := omega) only [go_sem, simprocAttr, stA, msgA, q_core, q_drain, q_try, q_evict, q_msg, q_sp, zSp', passK_shut CxP58, QK.use hd, QK.use hd']
    · unfold lnS
      rw [if_neg (by omega), if_neg (by omega), if_neg (by omega)]
      rfl
theorem rln_s {k n l : Int} (hk : (k = 1 ∨ k = 2 ∨ k = 3) ∧ l = 0 ∨ k = 4) (hn : 0 ≤ n ∧ n < 256) (hl : 0 ≤ l ∧ l < 256) : EvQ Cx 32 [stA k n l mz] (.tup [Sv (txS k n l), Bo true]) := by
  have hk0 : 0 ≤ k ∧ k < 256 := by omega
  have z : (0 : Int) ≤ 0 ∧ (0 : Int) < 256 := by omega
  obtain ⟨r, h1, s, b, rfl, -, h2, -⟩ := rln_all (b := false) hk0 hn hl z z z z z z z z z z
  have hx : lnS k n l 0 0 0 0 0 0 false 0 0 0 0 = some (txS k n l) := by
    rcases hk with ⟨rfl | rfl | rfl, rfl⟩ | rfl <;> simp [lnS, mzB]
  rw [hx] at h2
  cases b with
  | false => cases h2
  | true =>
    rw [if_pos rfl] at h2
    rw [Option.some.inj h2]
    exact h1
end Go.Proofs.YtijpomemobgddaaGreatDoor.Ev
namespace Go.Proofs.YtijpomemobgddaaGreatDoor.Ev
open Go Go.RowKit
set_option maxRecDepth 100000
def VS (x : List Value) : Prop := ∃ (k n l k' f t l' a c : Int) (b : Bool) (d0 d1 d2 d3 : Int), ((0 ≤ k ∧ k < 256) ∧ (0 ≤ n ∧ n < 256) ∧ (0 ≤ l ∧ l < 256)) ∧ Mv.Ok ⟨k', f, t, l', a, c, b, d0, d1, d2, d3⟩ ∧ x = st14 k n l k' f t l' a c b d0 d1 d2 d3
def lineS : List Value → Option ByteArray
  | [.int .u8 k, .int .u8 n, .int .u8 l, .int .u8 k', .int .u8 f, .int .u8 t, .int .u8 l', .int .u8 a, .int .u8 c, .bool b, .int .u8 d0, .int .u8 d1, .int .u8 d2, .int .u8 d3] => lnS k n l k' f t l' a c b d0 d1 d2 d3
  | _ => none
theorem lineS_eq (k n l k' f t l' a c : Int) (b : Bool) (d0 d1 d2 d3 : Int) : lineS (st14 k n l k' f t l' a c b d0 d1 d2 d3) = lnS k n l k' f t l' a c b d0 d1 d2 d3 := rfl
theorem stX_eq (k n l k' f t l' a c : Int) (b : Bool) (d0 d1 d2 d3 : Int) : stX (st14 k n l k' f t l' a c b d0 d1 d2 d3) = stA k n l (msgA k' f t l' a c b d0 d1 d2 d3) := rfl
def stS (k n l : Int) : List Value := st14 k n l 0 0 0 0 0 0 false 0 0 0 0
theorem stS_eq (k n l : Int) : stX (stS k n l) = stA k n l mz := rfl
theorem VS.is {x : List Value} (h : VS x) : Is14 x := by
  obtain ⟨k, n, l, k', f, t, l', a, c, b, d0, d1, d2, d3, -, -, rfl⟩ := h
  exact ⟨_, _, _, _, _, _, _, _, _, _, _, _, _, _, rfl⟩
theorem vs_S {k n l : Int} (hk : 0 ≤ k ∧ k < 256) (hn : 0 ≤ n ∧ n < 256) (hl : 0 ≤ l ∧ l < 256) : VS (stS k n l) := by
  have z : (0 : Int) ≤ 0 ∧ (0 : Int) < 256 := by omega
  exact ⟨_, _, _, _, _, _, _, _, _, _, _, _, _, _, ⟨hk, hn, hl⟩, ⟨z, z, z, z, z, z, z, z, z, z⟩, rfl⟩
theorem VS.fm {x : List Value} (h : VS x) : ∃ r, EvQ Cx 19 [stX x] r ∧ LnR (lineS x) r := by
  obtain ⟨k, n, l, k', f, t, l', a, c, b, d0, d1, d2, d3, ⟨g1, g2, g3⟩, ⟨a1, a2, a3, a4, a5, a6, a7, a8, a9, a10⟩, rfl⟩ := h
  exact fm_all g1 g2 g3 a1 a2 a3 a4 a5 a6 a7 a8 a9 a10
theorem VS.ln {x : List Value} (h : VS x) : ∃ r, EvQ Cx 32 [stX x] r ∧ LnR (lineS x) r := by
  obtain ⟨k, n, l, k', f, t, l', a, c, b, d0, d1, d2, d3, ⟨g1, g2, g3⟩, ⟨a1, a2, a3, a4, a5, a6, a7, a8, a9, a10⟩, rfl⟩ := h
  exact rln_all g1 g2 g3 a1 a2 a3 a4 a5 a6 a7 a8 a9 a10
theorem stX_inj {x y : List Value} (h : stX x = stX y) : x = y := by
  unfold stX at h
  injection h with h
  have : ∀ {x y : List Value}, x.map A.v = y.map A.v → x = y := by
    intro x
    induction x with
    | nil =>
      intro y h
      cases y with
      | nil => rfl
      | cons b y => cases h
    | cons a x ih =>
      intro y h
      cases y with
      | nil => cases h
      | cons b y =>
        rw [List.map_cons, List.map_cons] at h
        injection h with h1 h2
        injection h1 with h1
        rw [h1, ih h2]
  exact this h
theorem ln_cases {x : List Value} (h : VS x) {s : ByteArray} (hx : lineS x = some s) : (∃ k n l, ((k = 1 ∨ k = 2 ∨ k = 3) ∧ l = 0 ∨ k = 4) ∧ (0 ≤ n ∧ n < 256) ∧ (0 ≤ l ∧ l < 256) ∧ x = stS k n l ∧ s = txS k n l) ∨ ∃ m : Mv, m.Ok ∧ stX x = stA 5 0 0 m.C ∧ s = sMsg ++ sSp ++ joinB m.W := by
  obtain ⟨k, n, l, k', f, t, l', a, c, b, d0, d1, d2, d3, ⟨g1, g2, g3⟩, hm, rfl⟩ := h
  rw [lineS_eq] at hx
  unfold lnS at hx
  split at hx
  · rename_i hk
    split at hx
    · rename_i hz
      simp only [mzB, Bool.and_eq_true, beq_iff_eq, Bool.not_eq_true'] at hz
      obtain ⟨rfl, rfl, rfl, rfl, rfl, rfl, rfl, rfl, rfl, rfl, rfl, rfl⟩ := hz
      exact .inl ⟨k, n, 0, .inl ⟨hk, rfl⟩, g2, by omega, rfl, (Option.some.inj hx).symm⟩
    · cases hx
  · split at hx
    · rename_i hk
      subst hk
      split at hx
      · rename_i hz
        simp only [mzB, Bool.and_eq_true, beq_iff_eq, Bool.not_eq_true'] at hz
        obtain ⟨rfl, rfl, rfl, rfl, rfl, rfl, rfl, rfl, rfl, rfl, rfl⟩ := hz
        exact .inl ⟨4, n, l, .inr rfl, g2, g3, rfl, (Option.some.inj hx).symm⟩
      · cases hx
    · split at hx
      · rename_i hk
        subst hk
        split at hx
        · rename_i hz
          simp only [Bool.and_eq_true, beq_iff_eq] at hz
          obtain ⟨rfl, rfl⟩ := hz
          exact .inr ⟨⟨k', f, t, l', a, c, b, d0, d1, d2, d3⟩, hm, rfl, (Option.some.inj hx).symm⟩
        · cases hx
      · cases hx
theorem rdc {rd : ByteArray → Option (List Value)} (hrd : LineOk rd) {x : List Value} {s : ByteArray} (hx : VS x) (h : lineS x = some s) (hs : s.size ≤ 2000) : rd s = some x := by
  have h1 : EvQ Cx 18 [Sv s] (.tup [stX x, Bo true]) := by
    rcases ln_cases hx h with ⟨k, n, l, hk, hn, hl, rfl, rfl⟩ | ⟨m, hm, hX, rfl⟩
    · rw [stS_eq]
      rcases hk with ⟨hk, rfl⟩ | rfl
      · exact read_c123 hk hn
      · exact read_c4 hn hl
    · rw [hX]
      obtain ⟨a1, a2, a3, a4, a5, a6, a7, a8, a9, a10⟩ := hm
      exact read_c5 a1 a2 a3 a4 a5 a6 a7 a8 a9 a10
  have h2 := h1.one (hrd s hs).1
  cases hr : rd s with
  | none =>
    rw [hr] at h2
    unfold readR at h2
    injection h2 with h2
    injection h2 with _ h2
    injection h2 with h2
    injection h2 with h2
    injection h2 with h2
    cases h2
  | some y =>
    rw [hr] at h2
    unfold readR at h2
    injection h2 with h2
    injection h2 with h2 _
    rw [stX_inj h2]
theorem StepG.vs {x : List Value} (h : StepG (stX x)) : VS x := by
  have z : (0 : Int) ≤ 0 ∧ (0 : Int) < 256 := by omega
  rcases h with ⟨k, n, l, hk, hn, hl, e⟩ | ⟨k, f, t, l, a, c, b, d0, d1, d2, d3, ⟨a1, a2, a3, a4, a5, a6, a7, a8, a9, a10⟩, e⟩
  · rw [← stS_eq] at e
    rw [stX_inj e]
    exact vs_S (by omega) hn hl
  · rw [← stX_eq] at e
    rw [stX_inj e]
    exact ⟨_, _, _, _, _, _, _, _, _, _, _, _, _, _, ⟨by omega, z, z⟩, ⟨a1, a2, a3, a4, a5, a6, a7, a8, a9, a10⟩, rfl⟩
theorem rdd {rd : ByteArray → Option (List Value)} (hrd : LineOk rd) {x : List Value} {s : ByteArray} (hs : s.size ≤ 2000) (h : rd s = some x) : VS x ∧ lineS x = some s := by
  obtain ⟨-, h2, h3⟩ := (hrd s hs).2 x h
  have hv := h2.vs
  refine ⟨hv, ?_⟩
  obtain ⟨r, h4, s', b, rfl, -, h5, -⟩ := hv.fm
  have h6 := h3.one h4
  injection h6 with h6
  injection h6 with h7 h8
  injection h8 with h8
  injection h8 with h8
  injection h8 with h8
  subst h8
  injection h7 with h7
  injection h7 with h7
  subst h7
  rw [h5, if_pos rfl]
end Go.Proofs.YtijpomemobgddaaGreatDoor.Ev
namespace Go.Proofs.YtijpomemobgddaaGreatDoor.Ev
open Go Go.RowKit
set_option maxRecDepth 100000
theorem q_evict' : (⟨⟨[101, 118, 105, 99, 116, 32]⟩⟩ : ByteArray) = sEvict ++ sSp := rfl
theorem q_sp2 : (⟨⟨[32]⟩⟩ : ByteArray) = sSp := rfl
def bgS (s p : ByteArray) : Bool := decide (p.size ≤ s.size) && (s.extract 0 p.size).toList == p.toList
theorem bg_ev {s p : ByteArray} : EvQ Cx 61 [Sv s, Sv p] (Bo (bgS s p)) := by
  refine evQ_of CxB61 rfl (by simp [fn61]) ?_
  unfold bgS
  by_cases h : p.size ≤ s.size
  · rw [decide_eq_true h]
    simp (config := { maxSteps := 10000000 }) (disch := omega) only [go_sem, simprocAttr]
  · rw [decide_eq_false h]
    simp (config := { maxSteps := 10000000 }) (disch := omega) only [go_sem, simprocAttr]
theorem bg_app (p r : ByteArray) : bgS (p ++ r) p = true := by
  unfold bgS
  have h1 : p.size ≤ (p ++ r).size := by rw [ByteArray.size_append]; omega
  have h2 : (p ++ r).extract 0 p.size = p := by
    apply ba_ext
    rw [ByteArray.data_extract, Array.toList_extract, ByteArray.data_append, Array.toList_append]
    have hz : p.data.toList.length = p.size := rfl
    simp [List.extract, hz]
  rw [decide_eq_true h1, h2]
  simp
def sH (k n l : Int) (T : Heap) : Heap := some ⟨84, I8 k :: I8 n :: I8 l :: mz, true⟩ :: T
theorem inner3 {s : ByteArray} {KK : List It} {Q : Ex → Ev.St → Prop} {k N : Int} (hk : k = 1 ∨ k = 2 ∨ k = 3) (hN : 0 ≤ N ∧ N < 256) (T : Heap)
    (hR : txS k N 0 = s → ∀ (T : Heap) (e : Env), look e 2 = some (.ptr 0 0) → look e 3 = some (Bo true) → UnwK Cx .back KK ⟨e, sH k N 0 T⟩ Q)
    (hE : ¬ txS k N 0 = s → ∀ (T : Heap) (e : Env), look e 0 = some (Sv s) → look e 2 = some (.ptr 0 0) → look e 6 = some (I8 k) → look e 7 = some (I64 N) → UnwK Cx (.out 4) KK ⟨e, sH 0 0 0 T⟩ Q) :
    RunK Cx (.code (.loop m33_l2) :: KK) ⟨[(0, Sv s), (2, .ptr 0 0), (6, I8 k), (7, I64 N), (8, I64 0)], sH 0 0 0 T⟩ Q := by
  have hl := rln_s (k := k) (n := N) (l := 0) (.inl ⟨hk, rfl⟩) hN (by omega)
  simp only [stA, mz] at hl
  rw [runK_loop]
  by_cases ht : txS k N 0 = s
  · have hb := be_yes ht
    simp (config := { maxSteps := 10000000 }) (disch := omega) only [go_sem, simprocAttr, sH, mz, passK_shut CxP32, QK.use hl, hb, ap_get0, ap_set0, ap_getk, ap_setk, List.length_append, List.append_assoc, List.length_set]
    exact hR ht _ _ rfl rfl
  · have hb := be_no ht
    simp (config := { maxSteps := 10000000 }) (disch := omega) only [go_sem, simprocAttr, sH, mz, passK_shut CxP32, QK.use hl, hb, ap_get0, ap_set0, ap_getk, ap_setk, List.length_append, List.append_assoc, List.length_set]
    rw [runK_loop]
    simp (config := { maxSteps := 10000000 }) (disch := omega) only [go_sem, simprocAttr]
    exact hE ht _ _ rfl rfl rfl rfl
theorem inner4 {s : ByteArray} {KK : List It} {Q : Ex → Ev.St → Prop} {N : Int} (hN : 0 ≤ N ∧ N < 256)
    (hR : ∀ l : Int, 0 ≤ l ∧ l < 256 → txS 4 N l = s → ∀ (T : Heap) (e : Env), look e 2 = some (.ptr 0 0) → look e 3 = some (Bo true) → UnwK Cx .back KK ⟨e, sH 4 N l T⟩ Q)
    (hE : (∀ l : Int, 0 ≤ l ∧ l < 256 → ¬ txS 4 N l = s) → ∀ (T : Heap) (e : Env), look e 0 = some (Sv s) → look e 2 = some (.ptr 0 0) → look e 6 = some (I8 4) → look e 7 = some (I64 N) → UnwK Cx (.out 4) KK ⟨e, sH 0 0 0 T⟩ Q) :
    ∀ (j : Nat) (n : Int) (T : Heap), 0 ≤ n → n + j = 256 → (∀ l : Int, 0 ≤ l ∧ l < n → ¬ txS 4 N l = s) →
    RunK Cx (.code (.loop m33_l2) :: KK) ⟨[(0, Sv s), (2, .ptr 0 0), (6, I8 4), (7, I64 N), (8, I64 n)], sH 0 0 0 T⟩ Q := by
  intro j
  induction j with
  | zero =>
    intro n T h0 hj hall
    obtain rfl : n = 256 := by omega
    rw [runK_loop]
    simp (config := { maxSteps := 10000000 }) (disch := omega) only [go_sem, simprocAttr]
    exact hE hall _ _ rfl rfl rfl rfl
  | succ j ih =>
    intro n T h0 hj hall
    have hn : 0 ≤ n ∧ n < 256 := by omega
    have hl := rln_s (k := 4) (n := N) (l := n) (.inr rfl) hN hn
    simp only [stA, mz] at hl
    rw [runK_loop]
    by_cases ht : txS 4 N n = s
    · have hb := be_yes ht
      simp (config := { maxSteps := 10000000 }) (disch := omega) only [go_sem, simprocAttr, sH, mz, passK_shut CxP32, QK.use hl, hb, ap_get0, ap_set0, ap_getk, ap_setk, List.length_append, List.append_assoc, List.length_set]
      exact hR n hn ht _ _ rfl rfl
    · have hb := be_no ht
      have hall' : ∀ l : Int, 0 ≤ l ∧ l < n + 1 → ¬ txS 4 N l = s := fun l hl => by
        by_cases e : l = n
        · rw [e]
          exact ht
        · exact hall l (by omega)
      have hst := fun T => ih (n + 1) T (by omega) (by omega) hall'
      by_cases hz : n = 0
      · have hd := (rn_ev hN).1
        have zd := digB_size (n := N) (by omega)
        have zq : sEvict.size = 5 ∧ sSp.size = 1 := by decide
        have hg := bg_ev (s := s) (p := sEvict ++ sSp ++ digB N ++ sSp)
        cases hbg : bgS s (sEvict ++ sSp ++ digB N ++ sSp) with
        | true =>
          simp (config := { maxSteps := 10000000 }) (disch := omega) only [go_sem, simprocAttr, sH, mz, passK_shut CxP32, QK.use hl, hb, ap_get0, ap_set0, ap_getk, ap_setk, List.length_append, List.append_assoc, List.length_set, q_evict, q_evict', q_sp2, q_sp, zSp', passK_shut CxP58, QK.use hd, passK_shut CxP61, QK.use hg, hbg]
          rw [loop_norm (l := [0, 2, 6, 7, 8]) rfl]
          simp (config := { maxSteps := 10000000 }) (disch := omega) only [go_sem, simprocAttr]
          exact hst _
        | false =>
          simp (config := { maxSteps := 10000000 }) (disch := omega) only [go_sem, simprocAttr, sH, mz, passK_shut CxP32, QK.use hl, hb, ap_get0, ap_set0, ap_getk, ap_setk, List.length_append, List.append_assoc, List.length_set, q_evict, q_evict', q_sp2, q_sp, zSp', passK_shut CxP58, QK.use hd, passK_shut CxP61, QK.use hg, hbg]
          refine hE (fun l hl e => ?_) _ _ rfl rfl rfl rfl
          have e2 : s = sEvict ++ sSp ++ digB N ++ sSp ++ digB l := e.symm
          rw [e2, bg_app] at hbg
          cases hbg
      · simp (config := { maxSteps := 10000000 }) (disch := omega) only [go_sem, simprocAttr, sH, mz, passK_shut CxP32, QK.use hl, hb, ap_get0, ap_set0, ap_getk, ap_setk, List.length_append, List.append_assoc, List.length_set]
        rw [loop_norm (l := [0, 2, 6, 7, 8]) rfl]
        simp (config := { maxSteps := 10000000 }) (disch := omega) only [go_sem, simprocAttr]
        exact hst _
def vl (k l : Int) : Prop := ((k = 1 ∨ k = 2 ∨ k = 3) ∧ l = 0 ∨ k = 4) ∧ 0 ≤ l ∧ l < 256
theorem node_loop {s : ByteArray} {KK : List It} {Q : Ex → Ev.St → Prop} {k : Int} (hk : k = 1 ∨ k = 2 ∨ k = 3 ∨ k = 4)
    (hR : ∀ n l : Int, 0 ≤ n ∧ n < 256 → vl k l → txS k n l = s → ∀ (T : Heap) (e : Env), look e 2 = some (.ptr 0 0) → look e 3 = some (Bo true) → UnwK Cx .back KK ⟨e, sH k n l T⟩ Q)
    (hE : (∀ n l : Int, 0 ≤ n ∧ n < 256 → vl k l → ¬ txS k n l = s) → ∀ (T : Heap) (e : Env), look e 0 = some (Sv s) → look e 2 = some (.ptr 0 0) → look e 6 = some (I8 k) → UnwK Cx (.out 2) KK ⟨e, sH 0 0 0 T⟩ Q) :
    ∀ (j : Nat) (N : Int) (T : Heap), 0 ≤ N → N + j = 256 → (∀ n l : Int, 0 ≤ n ∧ n < N → vl k l → ¬ txS k n l = s) →
    RunK Cx (.code (.loop m33_l1) :: KK) ⟨[(0, Sv s), (2, .ptr 0 0), (6, I8 k), (7, I64 N)], sH 0 0 0 T⟩ Q := by
  intro j
  induction j with
  | zero =>
    intro N T h0 hj hall
    obtain rfl : N = 256 := by omega
    rw [runK_loop]
    simp (config := { maxSteps := 10000000 }) (disch := omega) only [go_sem, simprocAttr]
    exact hE hall _ _ rfl rfl rfl
  | succ j ih =>
    intro N T h0 hj hall
    have hN : 0 ≤ N ∧ N < 256 := by omega
    have hst : (∀ l : Int, vl k l → ¬ txS k N l = s) → ∀ T, _ := fun ha T => ih (N + 1) T (by omega) (by omega) fun n l hn hv => by
      by_cases e : n = N
      · rw [e]
        exact ha l hv
      · exact hall n l (by omega) hv
    rw [runK_loop]
    simp (config := { maxSteps := 10000000 }) (disch := omega) only [go_sem, simprocAttr]
    rw [loop_norm (l := [0, 2, 6, 7, 8]) rfl]
    simp (config := { maxSteps := 10000000 }) (disch := omega) only [go_sem, simprocAttr]
    by_cases h4 : k = 4
    · subst h4
      refine inner4 hN (fun l hl ht T e e2 e3 => ?_) (fun ha T e e0 e2 e6 e7 => ?_) 256 0 T (by omega) (by omega) (fun l hl => by omega)
      · simp (config := { maxSteps := 10000000 }) (disch := omega) only [go_sem, simprocAttr]
        exact hR N l hN ⟨.inr rfl, hl⟩ ht T e e2 e3
      · simp (config := { maxSteps := 10000000 }) (disch := omega) only [go_sem, simprocAttr, e0, e2, e6, e7]
        rw [loop_norm (l := [0, 2, 6, 7]) rfl]
        simp (config := { maxSteps := 10000000 }) (disch := omega) only [go_sem, simprocAttr]
        exact hst (fun l hv => ha l hv.2) T
    · have hk3 : k = 1 ∨ k = 2 ∨ k = 3 := by omega
      refine inner3 hk3 hN T (fun ht T e e2 e3 => ?_) (fun ha T e e0 e2 e6 e7 => ?_)
      · simp (config := { maxSteps := 10000000 }) (disch := omega) only [go_sem, simprocAttr]
        exact hR N 0 hN ⟨.inl ⟨hk3, rfl⟩, by omega⟩ ht T e e2 e3
      · simp (config := { maxSteps := 10000000 }) (disch := omega) only [go_sem, simprocAttr, e0, e2, e6, e7]
        rw [loop_norm (l := [0, 2, 6, 7]) rfl]
        simp (config := { maxSteps := 10000000 }) (disch := omega) only [go_sem, simprocAttr]
        refine hst (fun l hv => ?_) T
        rcases hv.1 with ⟨-, rfl⟩ | h
        · exact ha
        · exact absurd h h4
theorem kind_loop {s : ByteArray} {KK : List It} {Q : Ex → Ev.St → Prop}
    (hR : ∀ k n l : Int, 0 ≤ n ∧ n < 256 → vl k l → txS k n l = s → ∀ (T : Heap) (e : Env), look e 2 = some (.ptr 0 0) → look e 3 = some (Bo true) → UnwK Cx .back KK ⟨e, sH k n l T⟩ Q)
    (hE : (∀ k n l : Int, 0 ≤ n ∧ n < 256 → vl k l → ¬ txS k n l = s) → ∀ (T : Heap) (e : Env), look e 2 = some (.ptr 0 0) → UnwK Cx (.out 0) KK ⟨e, sH 0 0 0 T⟩ Q) :
    ∀ (j : Nat) (k : Int) (T : Heap), 1 ≤ k → k + j = 5 → (∀ k' n l : Int, k' < k → 0 ≤ n ∧ n < 256 → vl k' l → ¬ txS k' n l = s) →
    RunK Cx (.code (.loop m33_l0) :: KK) ⟨[(0, Sv s), (2, .ptr 0 0), (6, I8 k)], sH 0 0 0 T⟩ Q := by
  intro j
  induction j with
  | zero =>
    intro k T h0 hj hall
    obtain rfl : k = 5 := by omega
    rw [runK_loop]
    simp (config := { maxSteps := 10000000 }) (disch := omega) only [go_sem, simprocAttr]
    refine hE (fun k n l hn hv => hall k n l ?_ hn hv) _ _ rfl
    rcases hv.1 with ⟨h, -⟩ | h <;> omega
  | succ j ih =>
    intro k T h0 hj hall
    have hst : (∀ n l : Int, 0 ≤ n ∧ n < 256 → vl k l → ¬ txS k n l = s) → ∀ T, _ := fun ha T => ih (k + 1) T (by omega) (by omega) fun k' n l hk' hn hv => by
      by_cases e : k' = k
      · rw [e] at hv ⊢
        exact ha n l hn hv
      · exact hall k' n l (by omega) hn hv
    rw [runK_loop]
    simp (config := { maxSteps := 10000000 }) (disch := omega) only [go_sem, simprocAttr]
    rw [loop_norm (l := [0, 2, 6, 7]) rfl]
    simp (config := { maxSteps := 10000000 }) (disch := omega) only [go_sem, simprocAttr]
    refine node_loop (k := k) (by omega) (fun n l hn hv ht T e e2 e3 => ?_) (fun ha T e e0 e2 e6 => ?_) 256 0 T (by omega) (by omega) (fun n l hn => by omega)
    · simp (config := { maxSteps := 10000000 }) (disch := omega) only [go_sem, simprocAttr]
      exact hR k n l hn hv ht T e e2 e3
    · simp (config := { maxSteps := 10000000 }) (disch := omega) only [go_sem, simprocAttr, e0, e2, e6]
      rw [loop_norm (l := [0, 2, 6]) rfl]
      simp (config := { maxSteps := 10000000 }) (disch := omega) only [go_sem, simprocAttr]
      exact hst ha T
end Go.Proofs.YtijpomemobgddaaGreatDoor.Ev
namespace Go.Proofs.YtijpomemobgddaaGreatDoor.Ev
open Go Go.RowKit
set_option maxRecDepth 100000
theorem q_msg' : (⟨⟨[109, 115, 103, 32]⟩⟩ : ByteArray) = sMsg ++ sSp := rfl
def hd1 (s : ByteArray) : Option UInt8 := s.data.toList.head?
theorem tx_hd {k n l : Int} : ¬ hd1 (txS k n l) = some 109 := by
  unfold txS hd1
  repeat' split
  all_goals
    simp [sCore, sDrain, sTry, sEvict, ByteArray.data_append]
theorem msg_hd (r : ByteArray) : hd1 (sMsg ++ sSp ++ r) = some 109 := by
  unfold hd1
  simp [sMsg, ByteArray.data_append]
theorem cat_inj {p a b : ByteArray} (h : p ++ a = p ++ b) : a = b := by
  apply ba_ext
  have := congrArg (fun s : ByteArray => s.data.toList) h
  simpa [ByteArray.data_append] using this
theorem cut4 {s : ByteArray} (h4 : 4 < s.size) (hp : s.extract 0 4 = sMsg ++ sSp) : s = sMsg ++ sSp ++ s.extract 4 s.size := by
  rw [← hp]
  apply ba_ext
  rw [ByteArray.data_append, Array.toList_append, ByteArray.data_extract, ByteArray.data_extract, Array.toList_extract, Array.toList_extract]
  have hz : s.data.toList.length = s.size := rfl
  simp only [List.extract, List.drop_zero, Nat.sub_zero]
  rw [List.take_of_length_le (l := s.data.toList.drop 4) (by rw [List.length_drop, hz]; omega)]
  exact (List.take_append_drop 4 _).symm
theorem ext_msg (r : ByteArray) : (sMsg ++ sSp ++ r).extract 0 4 = sMsg ++ sSp := by
  apply ba_ext
  rw [ByteArray.data_extract, Array.toList_extract, ByteArray.data_append, Array.toList_append]
  rfl
theorem jw_pos (m : Mv) : 0 < (joinB m.W).size := by
  have h1 := joinB_min m.W
  have h2 : 3 ≤ m.W.length := by
    unfold Mv.W
    rw [words_eq]
    simp only [List.length_append, List.length_cons]
    have : 0 < (hdK m.k).length := List.length_pos_iff.2 (hdK_ne m.k)
    omega
  omega
theorem rstep_ev {rd : ByteArray → Option (List Value)} (hrd : LineOk rd) {s : ByteArray} (hs : s.size ≤ 2000) : ∃ y, Is14 y ∧ EvQ Cx 33 [Sv s] (.tup [stX y, Bo (rd s).isSome]) ∧ ∀ x, rd s = some x → y = x := by
  by_cases hpre : 4 < s.size ∧ s.extract 0 4 = sMsg ++ sSp
  · obtain ⟨h4, hp⟩ := hpre
    have he := cut4 h4 hp
    have hrs : (s.extract 4 s.size).size ≤ 2000 := by rw [ByteArray.size_extract]; omega
    have hq := rparse_ev hrs
    have hok := pR_ok (wsN 1000 (s.extract 4 s.size).data.toList ⟨⟨[]⟩⟩)
    generalize pR (wsN 1000 (s.extract 4 s.size).data.toList ⟨⟨[]⟩⟩) = m at hq hok
    generalize hc : decide (joinB m.W = s.extract 4 s.size) = c at hq
    have hb := be_yes hp
    obtain ⟨a1, a2, a3, a4, a5, a6, a7, a8, a9, a10⟩ := hok
    have z : (0 : Int) ≤ 0 ∧ (0 : Int) < 256 := by omega
    cases c with
    | true =>
      have hj := of_decide_eq_true hc
      have hv : VS (st14 5 0 0 m.k m.f m.t m.l m.a m.c m.b m.d0 m.d1 m.d2 m.d3) := ⟨_, _, _, _, _, _, _, _, _, _, _, _, _, _, ⟨by omega, z, z⟩, ⟨a1, a2, a3, a4, a5, a6, a7, a8, a9, a10⟩, rfl⟩
      have hln : lineS (st14 5 0 0 m.k m.f m.t m.l m.a m.c m.b m.d0 m.d1 m.d2 m.d3) = some s := by
        have hj' : joinB (wordsM m.k m.f m.t m.l m.a m.c m.b m.d0 m.d1 m.d2 m.d3) = s.extract 4 s.size := hj
        rw [lineS_eq]
        unfold lnS
        rw [if_neg (by omega), if_neg (by omega), if_pos rfl, if_pos (by decide), hj']
        exact congrArg some he.symm
      have hr := rdc hrd hv hln hs
      refine ⟨_, hv.is, ?_, fun x hx => by rw [hr] at hx; exact Option.some.inj hx⟩
      rw [hr]
      unfold prA Mv.C msgA at hq
      rw [if_pos rfl] at hq
      refine evQ_of CxB33 rfl (by simp [fn33]) ?_
      simp (config := { maxSteps := 10000000 }) (disch := omega) only [go_sem, simprocAttr, q_msg, q_msg', hb, passK_shut CxP60, QK.use hq]
      rfl
    | false =>
      have hj := of_decide_eq_false hc
      have hr : rd s = none := by
        cases hr : rd s with
        | none => rfl
        | some x =>
          exfalso
          obtain ⟨hv, hln⟩ := rdd hrd hs hr
          rcases ln_cases hv hln with ⟨k, n, l, -, -, -, -, e⟩ | ⟨m', hm', -, e⟩
          · refine tx_hd (k := k) (n := n) (l := l) ?_
            rw [← e, he]
            exact msg_hd _
          · have e2 := cat_inj (he.symm.trans e)
            have h1 := rparse_c hm'
            rw [← e2] at h1
            have h2 := h1.one hq
            unfold prA at h2
            rw [if_neg (by simp)] at h2
            injection h2 with h2
            injection h2 with _ h2
            injection h2 with h2
            injection h2 with h2
            injection h2 with _ h2
            cases h2
      refine ⟨st14 5 0 0 0 0 0 0 0 0 false 0 0 0 0, ⟨_, _, _, _, _, _, _, _, _, _, _, _, _, _, rfl⟩, ?_, fun x hx => by rw [hr] at hx; cases hx⟩
      rw [hr]
      unfold prA mz at hq
      rw [if_neg (by simp)] at hq
      refine evQ_of CxB33 rfl (by simp [fn33]) ?_
      simp (config := { maxSteps := 10000000 }) (disch := omega) only [go_sem, simprocAttr, q_msg, q_msg', hb, passK_shut CxP60, QK.use hq]
      rfl
  · have hnm : ∀ m : Mv, ¬ s = sMsg ++ sSp ++ joinB m.W := fun m e => by
      apply hpre
      rw [e]
      have := jw_pos m
      have zm : sMsg.size = 3 ∧ sSp.size = 1 := by decide
      exact ⟨by simp only [ByteArray.size_append]; omega, ext_msg _⟩
    have hyes : ∀ k n l : Int, 0 ≤ n ∧ n < 256 → vl k l → txS k n l = s → rd s = some (stS k n l) := fun k n l hn hv ht => by
      refine rdc hrd (vs_S (by have := hv.1; omega) hn hv.2) ?_ hs
      rw [← ht]
      rcases hv.1 with ⟨rfl | rfl | rfl, rfl⟩ | rfl <;> simp [stS, lineS_eq, lnS, mzB]
    have hno : (∀ k n l : Int, 0 ≤ n ∧ n < 256 → vl k l → ¬ txS k n l = s) → rd s = none := fun ha => by
      cases hr : rd s with
      | none => rfl
      | some x =>
        exfalso
        obtain ⟨hv, hln⟩ := rdd hrd hs hr
        rcases ln_cases hv hln with ⟨k, n, l, hk, hn, hl, -, e⟩ | ⟨m', hm', -, e⟩
        · exact ha k n l hn ⟨hk, hl⟩ e.symm
        · exact hnm m' e
    have key : EvQ Cx 33 [Sv s] (readR (rd s)) := by
      refine evQ_of CxB33 rfl (by simp [fn33]) ?_
      by_cases h4 : 4 < s.size
      · have hb := be_no (fun hp => hpre ⟨h4, hp⟩ : ¬ s.extract 0 4 = sMsg ++ sSp)
        simp (config := { maxSteps := 10000000 }) (disch := omega) only [go_sem, simprocAttr, q_msg, q_msg', hb]
        rw [loop_norm (l := [0, 2, 6]) rfl]
        simp (config := { maxSteps := 10000000 }) (disch := omega) only [go_sem, simprocAttr]
        refine kind_loop (fun k n l hn hv ht T e e2 e3 => ?_) (fun ha T e e2 => ?_) 4 1 [] (by omega) (by omega) (fun k' n l h hn hv => absurd hv.1 (by omega))
        · rw [hyes k n l hn hv ht]
          simp (config := { maxSteps := 10000000 }) (disch := omega) only [go_sem, simprocAttr, sH, mz, e2, e3]
          rfl
        · rw [hno ha]
          simp (config := { maxSteps := 10000000 }) (disch := omega) only [go_sem, simprocAttr, sH, mz, e2]
          rfl
      · simp (config := { maxSteps := 10000000 }) (disch := omega) only [go_sem, simprocAttr]
        rw [loop_norm (l := [0, 2, 6]) rfl]
        simp (config := { maxSteps := 10000000 }) (disch := omega) only [go_sem, simprocAttr]
        refine kind_loop (fun k n l hn hv ht T e e2 e3 => ?_) (fun ha T e e2 => ?_) 4 1 [] (by omega) (by omega) (fun k' n l h hn hv => absurd hv.1 (by omega))
        · rw [hyes k n l hn hv ht]
          simp (config := { maxSteps := 10000000 }) (disch := omega) only [go_sem, simprocAttr, sH, mz, e2, e3]
          rfl
        · rw [hno ha]
          simp (config := { maxSteps := 10000000 }) (disch := omega) only [go_sem, simprocAttr, sH, mz, e2]
          rfl
    cases hr : rd s with
    | none =>
      rw [hr] at key
      exact ⟨stS 0 0 0, ⟨_, _, _, _, _, _, _, _, _, _, _, _, _, _, rfl⟩, key, fun x hx => by cases hx⟩
    | some x =>
      rw [hr] at key
      exact ⟨x, ((hrd s hs).2 x hr).1, key, fun y hy => Option.some.inj hy⟩
end Go.Proofs.YtijpomemobgddaaGreatDoor.Ev
namespace Go.Proofs.YtijpomemobgddaaGreatDoor.Ev
open Go Go.RowKit
set_option maxRecDepth 100000
open Classical in
noncomputable def fxE (f : FuncId) (x : List Value) : ByteArray × Bool := if h : ∃ p : ByteArray × Bool, EvQ Cx f [stX x] (.tup [Sv p.1, Bo p.2]) then Classical.choose h else (.empty, false)
theorem fxE_ok {f : FuncId} {x : List Value} (h : ∃ r, EvQ Cx f [stX x] r ∧ LnR (lineS x) r) : EvQ Cx f [stX x] (.tup [Sv (fxE f x).1, Bo (fxE f x).2]) ∧ (fxE f x).1.size ≤ 3000 ∧ lineS x = (if (fxE f x).2 = true then some (fxE f x).1 else none) ∧ ((fxE f x).2 = true → 0 < (fxE f x).1.size) := by
  obtain ⟨r, h1, s, b, rfl, h2, h3, h4⟩ := h
  have hx : ∃ p : ByteArray × Bool, EvQ Cx f [stX x] (.tup [Sv p.1, Bo p.2]) := ⟨(s, b), h1⟩
  have he : fxE f x = (s, b) := by
    unfold fxE
    rw [dif_pos hx]
    have h5 := h1.one (Classical.choose_spec hx)
    injection h5 with h5
    injection h5 with h6 h7
    injection h7 with h7
    injection h7 with h7
    injection h7 with h7
    injection h6 with h6
    injection h6 with h6
    exact Prod.ext h6 h7
  rw [he]
  exact ⟨h1, h2, h3, h4⟩
def txL : List (List Value) → List UInt8 → Option (List UInt8)
  | [], bs => some bs
  | x :: xs, bs => match lineS x with
    | some s => txL xs (bs ++ s.data.toList ++ [10])
    | none => none
theorem tx_eq {f : FuncId} : ∀ (xs : List (List Value)) (bs : List UInt8), (∀ x ∈ xs, ∃ r, EvQ Cx f [stX x] r ∧ LnR (lineS x) r) → txM (fxE f) xs bs = txL xs bs
  | [], bs, _ => rfl
  | x :: xs, bs, h => by
    have h1 := (fxE_ok (h x (.head _))).2.2.1
    rw [txM, txL, h1]
    split
    · rename_i hb
      exact tx_eq xs _ fun y hy => h y (.tail _ hy)
    · rfl
def FmR (fm : List Value → ByteArray × Bool) (xs : List (List Value)) : Prop := ∀ x ∈ xs, Is14 x ∧ EvQ Cx 32 [stX x] (.tup [Sv (fm x).1, Bo (fm x).2]) ∧ (fm x).1.size ≤ 3000
theorem q_nl : (⟨⟨[⟨10#8⟩]⟩⟩ : ByteArray).size = 1 := rfl
theorem rtx_loop {fm : List Value → ByteArray × Bool} {xs : List (List Value)} (hfm : FmR fm xs) (hlen : xs.length ≤ 3000) {KK : List It} {Q : Ex → Ev.St → Prop} :
    ∀ (zs ys : List (List Value)) (bs : List UInt8), xs = ys ++ zs → bs.length ≤ ys.length * 3001 →
      (∀ bs', txM fm zs bs = some bs' → ∀ e : Env, look e 4 = some (Sv ⟨⟨bs'⟩⟩) → UnwK Cx (.out 0) KK ⟨e, []⟩ Q) →
      (txM fm zs bs = none → ∀ e : Env, look e 2 = some (Sv ⟨⟨[]⟩⟩) → look e 3 = some (I64 2) → UnwK Cx .back KK ⟨e, []⟩ Q) →
      RunK Cx (.code (.loop m15_l0) :: KK) ⟨[(0, .sl xs.length (flatX xs)), (4, Sv ⟨⟨bs⟩⟩), (5, I64 ys.length)], []⟩ Q := by
  intro zs
  induction zs with
  | nil =>
    intro ys bs hx hb hE hF
    have hy : ys.length = xs.length := by rw [hx]; simp
    rw [runK_loop]
    simp (config := { maxSteps := 10000000 }) (disch := omega) only [go_sem, simprocAttr, hy]
    exact hE bs rfl _ rfl
  | cons x zs ih =>
    intro ys bs hx hb hE hF
    obtain ⟨⟨q1, q2, q3, q4, q5, q6, q7, q8, q9, b, p0, p1, p2, p3, rfl⟩, hf, hz⟩ := hfm x (by rw [hx]; simp)
    have h14 : ∀ y ∈ xs, Is14 y := fun y hy => (hfm y hy).1
    have hy : ys.length < xs.length := by rw [hx]; simp
    have hfl : flatX xs = flatX ys ++ flatX (st14 q1 q2 q3 q4 q5 q6 q7 q8 q9 b p0 p1 p2 p3 :: zs) := by rw [hx]; simp [flatX]
    have hd : List.drop (ys.length * 14) (flatX xs) = (st14 q1 q2 q3 q4 q5 q6 q7 q8 q9 b p0 p1 p2 p3).map .v ++ flatX zs := by
      rw [hfl, ← flatX_len (fun y hy => h14 y (by rw [hx]; simp [hy])), List.drop_left]
      simp [flatX]
    have hxl := flatX_len h14
    simp only [st14, List.map_cons, List.map_nil, List.cons_append, List.nil_append] at hd
    have hst := fun bs' h => ih (ys ++ [st14 q1 q2 q3 q4 q5 q6 q7 q8 q9 b p0 p1 p2 p3]) bs' (by rw [hx]; simp) h
    have hc : (((ys ++ [st14 q1 q2 q3 q4 q5 q6 q7 q8 q9 b p0 p1 p2 p3]).length : Nat) : Int) = (ys.length : Int) + 1 := by simp
    rw [hc] at hst
    have hcl : (ys ++ [st14 q1 q2 q3 q4 q5 q6 q7 q8 q9 b p0 p1 p2 p3]).length = ys.length + 1 := by simp
    rw [hcl] at hst
    clear ih
    unfold stX at hf
    simp only [st14, List.map_cons, List.map_nil] at hf
    rw [runK_loop]
    have htx : txM fm (st14 q1 q2 q3 q4 q5 q6 q7 q8 q9 b p0 p1 p2 p3 :: zs) bs = if (fm (st14 q1 q2 q3 q4 q5 q6 q7 q8 q9 b p0 p1 p2 p3)).2 then txM fm zs (bs ++ (fm (st14 q1 q2 q3 q4 q5 q6 q7 q8 q9 b p0 p1 p2 p3)).1.data.toList ++ [10]) else none := rfl
    rw [htx] at hE hF
    clear htx
    change EvQ Cx 32 _ (.tup [Sv (fm (st14 q1 q2 q3 q4 q5 q6 q7 q8 q9 b p0 p1 p2 p3)).1, Bo (fm (st14 q1 q2 q3 q4 q5 q6 q7 q8 q9 b p0 p1 p2 p3)).2]) at hf
    generalize fm (st14 q1 q2 q3 q4 q5 q6 q7 q8 q9 b p0 p1 p2 p3) = fx at *
    obtain ⟨S, B⟩ := fx
    simp only at hf hz hE hF
    have zS : (⟨⟨bs⟩⟩ : ByteArray).size = bs.length := rfl
    cases B with
    | false =>
      simp (config := { maxSteps := 10000000 }) (disch := omega) only [go_sem, simprocAttr, Nat.mul_one, hd, hxl, passK_shut CxP32, QK.use hf]
      exact hF rfl _ rfl rfl
    | true =>
      have hS : S.data.toList.length = S.size := rfl
      have hst := hst (bs ++ S.data.toList ++ [10]) (by simp only [List.length_append, List.length_cons, List.length_nil, hS]; omega) hE hF
      have he : (⟨⟨bs⟩⟩ : ByteArray) ++ S ++ ⟨⟨[⟨10#8⟩]⟩⟩ = ⟨⟨bs ++ S.data.toList ++ [10]⟩⟩ := ba_ext (by simp [ByteArray.data_append])
      have he' : (⟨⟨bs⟩⟩ : ByteArray) ++ S ++ ⟨⟨[10]⟩⟩ = ⟨⟨bs ++ S.data.toList ++ [10]⟩⟩ := he
      simp (config := { maxSteps := 10000000 }) (disch := omega) only [go_sem, simprocAttr, Nat.mul_one, hd, hxl, zS, q_nl, passK_shut CxP32, QK.use hf]
      rw [loop_norm (l := [0, 4, 5]) rfl]
      simp (config := { maxSteps := 10000000 }) (disch := omega) only [go_sem, simprocAttr, he, he']
      exact hst
theorem rText_ev {fm : List Value → ByteArray × Bool} {xs : List (List Value)} (hfm : FmR fm xs) (hlen : xs.length ≤ 3000) : EvQ Cx 15 [slX xs] (TxA (txM fm xs [])) := by
  refine evQ_of CxB15 rfl (by simp [fn15]) ?_
  by_cases hxs : xs = []
  · subst hxs
    simp (config := { maxSteps := 10000000 }) (disch := omega) only [go_sem, simprocAttr, slX]
    rw [runK_loop]
    simp (config := { maxSteps := 10000000 }) (disch := omega) only [go_sem, simprocAttr]
    rfl
  · have hsl : slX xs = .sl xs.length (flatX xs) := by simp [slX, hxs]
    rw [hsl]
    simp (config := { maxSteps := 10000000 }) (disch := omega) only [go_sem, simprocAttr]
    rw [loop_norm (l := [0, 4, 5]) rfl]
    simp (config := { maxSteps := 10000000 }) (disch := omega) only [go_sem, simprocAttr]
    refine rtx_loop hfm hlen xs [] [] rfl (by simp) (fun bs h e e4 => ?_) (fun h e e2 e3 => ?_)
    · rw [h]
      simp (config := { maxSteps := 10000000 }) (disch := omega) only [go_sem, simprocAttr, e4]
      rfl
    · rw [h]
      simp (config := { maxSteps := 10000000 }) (disch := omega) only [go_sem, simprocAttr, e2, e3]
      rfl
theorem texts_same {xs : List (List Value)} (h : ∀ x ∈ xs, VS x) (hlen : xs.length ≤ 3000) : EvQ Cx 9 [slX xs] (TxA (txL xs [])) ∧ EvQ Cx 15 [slX xs] (TxA (txL xs [])) := by
  have h1 := fun x hx => (h x hx).fm
  have h2 := fun x hx => (h x hx).ln
  constructor
  · rw [← tx_eq xs [] h1]
    refine Text_ev (fun x hx => ?_) hlen
    obtain ⟨a1, a2, -, a4⟩ := fxE_ok (h1 x hx)
    exact ⟨(h x hx).is, a1, a2, a4⟩
  · rw [← tx_eq xs [] h2]
    refine rText_ev (fun x hx => ?_) hlen
    obtain ⟨a1, a2, -, -⟩ := fxE_ok (h2 x hx)
    exact ⟨(h x hx).is, a1, a2⟩
end Go.Proofs.YtijpomemobgddaaGreatDoor.Ev
namespace Go.Proofs.YtijpomemobgddaaGreatDoor.Ev
open Go Go.RowKit
set_option maxRecDepth 100000
def SrT (T : Heap) (v : A) (xs : List (List Value)) : Prop := (xs = [] ∧ v = An) ∨ (xs ≠ [] ∧ ∃ j, j < T.length ∧ v = .ref j 0 xs.length 14 ∧ ∀ l, (T ++ l)[j]? = some (some ⟨84, flatX xs, false⟩))
theorem srT_new {T T' : Heap} {k n : Nat} {xs : List (List Value)} {cs : List A} (hk : T.length = k) (hn : n = xs.length) (hne : xs ≠ []) (hc : cs = flatX xs) (hT : T' = T ++ [some ⟨84, cs, false⟩] := by rfl) : SrT T' (.ref k 0 n 14) xs := by
  subst hc
  subst hT
  subst hk
  subst hn
  refine .inr ⟨hne, T.length, by simp, rfl, fun l => ?_⟩
  rw [List.append_assoc]
  exact ap_get0 _ _ _
theorem ext_seg {s : ByteArray} {f i : Nat} {seg l : List UInt8} (hfi : s.data.toList.drop f = seg ++ l) (hi : i = f + seg.length) (hs : i ≤ s.size) : s.extract f i = ⟨⟨seg⟩⟩ := by
  apply ba_ext
  rw [ByteArray.data_extract, Array.toList_extract]
  subst hi
  simp only [List.extract, hfi, Nat.add_sub_cancel_left]
  simp
theorem rread_loop {rd : ByteArray → Option (List Value)} (hrd : LineOk rd) {s : ByteArray} (hs : s.size ≤ 2000) {KK : List It} {Q : Ex → Ev.St → Prop} (RES : List (List Value) × Nat × Bool)
    (hE1 : ∀ (xs : List (List Value)) (v : A) (T : Heap) (e : Env) (f m : Nat), RES = (xs, 0, true) → (∀ x ∈ xs, Is14 x) → SrT T v xs → look e 0 = some (Sv s) → look e 5 = some v → look e 6 = some (I64 m) → look e 7 = some (I64 f) → s.size ≤ f → UnwK Cx (.out 0) KK ⟨e, T⟩ Q)
    (hE2 : ∀ (T : Heap) (e : Env) (v : A) (m f : Nat), RES = ([], m, false) → look e 0 = some (Sv s) → look e 5 = some v → look e 6 = some (I64 m) → look e 7 = some (I64 f) → f < s.size → UnwK Cx (.out 0) KK ⟨e, T⟩ Q)
    (hF : ∀ (T : Heap) (e : Env) (m : Nat), RES = ([], m, false) → look e 2 = some An → look e 3 = some (I64 m) → look e 4 = some (I64 340) → UnwK Cx .back KK ⟨e, T⟩ Q) :
    ∀ (l seg : List UInt8) (f i K n : Nat) (xs : List (List Value)) (v : A) (T : Heap), s.data.toList.drop f = seg ++ l → i = f + seg.length → (10 : UInt8) ∉ seg → f + seg.length + l.length = s.size → seg.length + l.length < K → n + i ≤ 4000 → n ≤ i → xs.length = n → lp rd K ⟨⟨seg ++ l⟩⟩ xs n = RES → (∀ x ∈ xs, Is14 x) → SrT T v xs →
    RunK Cx (.code (.loop m16_l0) :: KK) ⟨[(0, Sv s), (5, v), (6, I64 ((n : Int) + 1)), (7, I64 f), (8, I64 i)], T⟩ Q := by
  intro l
  induction l with
  | nil =>
    intro seg f i K n xs v T hd hi h10 hz hK hn hni hx hlp h14 hv
    rw [List.length_nil] at hz
    have hsz : s.size = i := by omega
    rw [runK_loop]
    simp (config := { maxSteps := 10000000 }) (disch := omega) only [go_sem, simprocAttr]
    rw [List.append_nil] at hlp
    obtain ⟨K, rfl⟩ : ∃ k, K = k + 1 := ⟨K - 1, by omega⟩
    by_cases h0 : seg = []
    · subst h0
      rw [lp_zero] at hlp
      refine hE1 xs v T _ f (n + 1) hlp.symm h14 hv ?_ ?_ ?_ ?_ (by simp at hi; omega) <;> rfl
    · rw [lp_no rd h0 h10] at hlp
      have hpos : 0 < seg.length := List.length_pos_iff.2 h0
      refine hE2 T _ v (n + 1) f hlp.symm ?_ ?_ ?_ ?_ (by omega) <;> rfl
  | cons b l ih =>
    intro seg f i K n xs v T hd hi h10 hz hK hn hni hx hlp h14 hv
    rw [List.length_cons] at hz hK
    have hiz : i < s.size := by omega
    have hdi : s.data.toList.drop i = b :: l := by
      rw [hi, ← List.drop_drop, hd]
      simp
    have hb : s[i]? = some b := by
      have h := congrArg (·[0]?) hdi
      simp only [List.getElem?_drop, Nat.add_zero, List.getElem?_cons_zero] at h
      have h3 : s[i] = b := by
        have h4 := (List.getElem?_eq_some_iff.1 h).2
        rw [Array.getElem_toList] at h4
        exact h4
      rw [getElem?_pos s i hiz, h3]
    rw [runK_loop]
    by_cases hb10 : b = 10
    · have hbn : (b.toNat : Int) = 10 := by rw [hb10]; rfl
      subst hb10
      obtain ⟨K, rfl⟩ : ∃ k, K = k + 1 := ⟨K - 1, by omega⟩
      rw [lp_at rd h10] at hlp
      have hse := ext_seg hd hi (by omega)
      have hsg : (⟨⟨seg⟩⟩ : ByteArray).size ≤ 2000 := by
        show seg.length ≤ 2000
        omega
      obtain ⟨y, ⟨q1, q2, q3, q4, q5, q6, q7, q8, q9, b', p0, p1, p2, p3, rfl⟩, hq, hyx⟩ := rstep_ev hrd hsg
      unfold stX at hq
      simp only [st14, List.map_cons, List.map_nil] at hq
      cases hr : rd ⟨⟨seg⟩⟩ with
      | none =>
        rw [hr] at hlp hq
        simp only [Option.isSome_none] at hq
        simp (config := { maxSteps := 10000000 }) (disch := omega) only [go_sem, simprocAttr, hb, hse, passK_shut CxP33, QK.use hq, ap_get0, ap_set0, ap_getk, ap_setk, List.length_append, List.append_assoc, List.length_set]
        refine hF _ _ (n + 1) hlp.symm ?_ ?_ ?_ <;> rfl
      | some x =>
        rw [hr] at hlp hq
        simp only [Option.isSome_some] at hq
        obtain rfl := hyx x hr
        have h14' : ∀ x ∈ xs ++ [st14 q1 q2 q3 q4 q5 q6 q7 q8 q9 b' p0 p1 p2 p3], Is14 x := by
          intro y hy
          rcases List.mem_append.1 hy with hy | hy
          · exact h14 y hy
          · rw [List.mem_singleton.1 hy]
            exact ⟨_, _, _, _, _, _, _, _, _, _, _, _, _, _, rfl⟩
        have hd' : s.data.toList.drop (i + 1) = [] ++ l := by
          rw [← List.drop_drop, hdi]
          rfl
        have hst := fun v T hv => ih [] (i + 1) (i + 1) K (n + 1) (xs ++ [st14 q1 q2 q3 q4 q5 q6 q7 q8 q9 b' p0 p1 p2 p3]) v T hd' (by simp) (by simp) (by simp; omega) (by simp; omega) (by omega) (by omega) (by simp [hx]) hlp h14' hv
        simp only [Int.natCast_add, Int.cast_ofNat_Int] at hst
        rcases hv with ⟨rfl, rfl⟩ | ⟨hne, j, hj, rfl, hjl⟩
        · simp (config := { maxSteps := 10000000 }) (disch := omega) only [go_sem, simprocAttr, hb, hse, passK_shut CxP33, QK.use hq, ap_get0, ap_set0, ap_getk, ap_setk, List.length_append, List.append_assoc, List.length_set]
          rw [loop_norm (l := [0, 5, 6, 7, 8]) rfl]
          simp (config := { maxSteps := 10000000 }) (disch := omega) only [go_sem, simprocAttr]
          refine hst _ _ ?_
          rw [ap_three]
          refine srT_new ?_ ?_ ?_ ?_ (hT := rfl)
          · simp
          · simp
          · simp
          · rfl
        · have z1 := flatX_len h14
          have z2 : List.take (xs.length * 14) (flatX xs) = flatX xs := List.take_of_length_le (by omega)
          simp (config := { maxSteps := 10000000 }) (disch := omega) only [go_sem, simprocAttr, hb, hse, passK_shut CxP33, QK.use hq, hjl, z1, z2, ap_get0, ap_set0, ap_getk, ap_setk, List.length_append, List.append_assoc, List.length_set]
          rw [loop_norm (l := [0, 5, 6, 7, 8]) rfl]
          simp (config := { maxSteps := 10000000 }) (disch := omega) only [go_sem, simprocAttr]
          refine hst _ _ ?_
          refine srT_new ?_ ?_ ?_ ?_ (hT := rfl)
          · simp
          · simp
          · simp
          · simp [flatX, st14]
    · have hbn : ¬ (b.toNat : Int) = 10 := fun h => hb10 (UInt8.toNat_inj.1 (by show b.toNat = 10; omega))
      have hst := ih (seg ++ [b]) f (i + 1) K n xs v T (by rw [hd]; simp) (by simp; omega) (by simp [h10, Ne.symm hb10]) (by simp; omega) (by simp; omega) (by omega) (by omega) hx (by rw [← hlp]; simp) h14 hv
      simp only [Int.natCast_add, Int.cast_ofNat_Int] at hst
      simp (config := { maxSteps := 10000000 }) (disch := omega) only [go_sem, simprocAttr, hb]
      rw [loop_norm (l := [0, 5, 6, 7, 8]) rfl]
      simp (config := { maxSteps := 10000000 }) (disch := omega) only [go_sem, simprocAttr]
      exact hst
theorem lp_fuel (rd : ByteArray → Option (List Value)) : ∀ (k : Nat) (t : ByteArray) (xs : List (List Value)) (n : Nat), t.size ≤ k → lp rd (k + 1) t xs n = lp rd k t xs n
  | 0, t, xs, n, h => by
    show (if t.size = 0 then _ else _) = _
    rw [if_pos (by omega)]
    rfl
  | k + 1, t, xs, n, h => by
    rw [lp]
    conv => rhs; rw [lp]
    split
    · rfl
    · have hr := cutA_lt 10 t
      split
      · rename_i x h1 h2
        exact lp_fuel rd k _ _ _ (by have := hr h2; omega)
      · rfl
theorem rRead_ev {rd : ByteArray → Option (List Value)} (hrd : LineOk rd) {s : ByteArray} (hs : s.size ≤ 2000) : EvQ Cx 16 [Sv s] (RdA (lp rd s.size s [] 0)) := by
  have hlp : lp rd (s.size + 1) ⟨⟨[] ++ s.data.toList⟩⟩ [] 0 = lp rd s.size s [] 0 := lp_fuel rd s.size s [] 0 (Nat.le_refl _)
  refine evQ_of CxB16 rfl (by simp [fn16]) ?_
  simp (config := { maxSteps := 10000000 }) (disch := omega) only [go_sem, simprocAttr]
  rw [loop_norm (l := [0, 5, 6, 7, 8]) rfl]
  simp (config := { maxSteps := 10000000 }) (disch := omega) only [go_sem, simprocAttr]
  refine rread_loop hrd hs (lp rd s.size s [] 0) (fun xs v T e f m h h14 hv e0 e5 e6 e7 hf => ?_) (fun T e v m f h e0 e5 e6 e7 hf => ?_) (fun T e m h e2 e3 e4 => ?_) s.data.toList [] 0 0 (s.size + 1) 0 [] An [] rfl rfl (by simp) (by simp [size_data]) (by simp [size_data]) (by omega) (by omega) rfl hlp (fun x hx => by cases hx) (.inl ⟨rfl, rfl⟩)
  · rw [h]
    have z1 := flatX_len h14
    have z2 : List.take (xs.length * 14) (flatX xs) = flatX xs := List.take_of_length_le (by omega)
    rcases hv with ⟨rfl, rfl⟩ | ⟨hxs, j, hj, rfl, hjl⟩
    · simp (config := { maxSteps := 10000000 }) (disch := omega) only [go_sem, simprocAttr, e0, e5, e6, e7]
      rfl
    · have hj0 := hjl []
      rw [List.append_nil] at hj0
      simp (config := { maxSteps := 10000000 }) (disch := omega) only [go_sem, simprocAttr, e0, e5, e6, e7, hj0, z1, z2, fz_flat]
      simp [RdA, slX, hxs]
  · rw [h]
    simp (config := { maxSteps := 10000000 }) (disch := omega) only [go_sem, simprocAttr, e0, e5, e6, e7]
    rfl
  · rw [h]
    simp (config := { maxSteps := 10000000 }) (disch := omega) only [go_sem, simprocAttr, e2, e3, e4]
    rfl
end Go.Proofs.YtijpomemobgddaaGreatDoor.Ev
namespace Go.Proofs.YtijpomemobgddaaGreatDoor.Ev
open Go Go.RowKit
set_option maxRecDepth 100000
theorem same_loop {xs : List (List Value)} (h14 : ∀ x ∈ xs, Is14 x) (hlen : xs.length ≤ 3000) {KK : List It} {Q : Ex → Ev.St → Prop} (hE : ∀ e : Env, UnwK Cx (.out 0) KK ⟨e, []⟩ Q) :
    ∀ (zs ys : List (List Value)), xs = ys ++ zs → RunK Cx (.code (.loop m14_l0) :: KK) ⟨[(0, .sl xs.length (flatX xs)), (1, .sl xs.length (flatX xs)), (5, I64 ys.length)], []⟩ Q := by
  intro zs
  induction zs with
  | nil =>
    intro ys hx
    have hy : ys.length = xs.length := by rw [hx]; simp
    rw [runK_loop]
    simp (config := { maxSteps := 10000000 }) (disch := omega) only [go_sem, simprocAttr, hy]
    exact hE _
  | cons x zs ih =>
    intro ys hx
    obtain ⟨q1, q2, q3, q4, q5, q6, q7, q8, q9, b, p0, p1, p2, p3, rfl⟩ := h14 x (by rw [hx]; simp)
    have hy : ys.length < xs.length := by rw [hx]; simp
    have hfl : flatX xs = flatX ys ++ flatX (st14 q1 q2 q3 q4 q5 q6 q7 q8 q9 b p0 p1 p2 p3 :: zs) := by rw [hx]; simp [flatX]
    have hd : List.drop (ys.length * 14) (flatX xs) = (st14 q1 q2 q3 q4 q5 q6 q7 q8 q9 b p0 p1 p2 p3).map .v ++ flatX zs := by
      rw [hfl, ← flatX_len (fun y hy => h14 y (by rw [hx]; simp [hy])), List.drop_left]
      simp [flatX]
    have hxl := flatX_len h14
    simp only [st14, List.map_cons, List.map_nil, List.cons_append, List.nil_append] at hd
    have hst := ih (ys ++ [st14 q1 q2 q3 q4 q5 q6 q7 q8 q9 b p0 p1 p2 p3]) (by rw [hx]; simp)
    have hc : (((ys ++ [st14 q1 q2 q3 q4 q5 q6 q7 q8 q9 b p0 p1 p2 p3]).length : Nat) : Int) = (ys.length : Int) + 1 := by simp
    rw [hc] at hst
    clear ih
    rw [runK_loop]
    simp (config := { maxSteps := 10000000 }) (disch := omega) only [go_sem, simprocAttr, hd, hxl]
    rw [loop_norm (l := [0, 1, 5]) rfl]
    simp (config := { maxSteps := 10000000 }) (disch := omega) only [go_sem, simprocAttr]
    exact hst
abbrev slS (xs : List (List Value)) : A := .sl xs.length (flatX xs)
theorem same_ev {xs : List (List Value)} (h14 : ∀ x ∈ xs, Is14 x) (hlen : xs.length ≤ 3000) : EvQ Cx 14 [slX xs, slX xs] (Bo true) := by
  refine evQ_of CxB14 rfl (by simp [fn14]) ?_
  by_cases hxs : xs = []
  · subst hxs
    simp (config := { maxSteps := 10000000 }) (disch := omega) only [go_sem, simprocAttr, slX]
    rw [runK_loop]
    simp (config := { maxSteps := 10000000 }) (disch := omega) only [go_sem, simprocAttr]
  · have hsl : slX xs = .sl xs.length (flatX xs) := by simp [slX, hxs]
    rw [hsl]
    simp (config := { maxSteps := 10000000 }) (disch := omega) only [go_sem, simprocAttr]
    rw [loop_norm (l := [0, 1, 5]) rfl]
    simp (config := { maxSteps := 10000000 }) (disch := omega) only [go_sem, simprocAttr]
    refine same_loop h14 hlen (fun e => ?_) xs [] rfl
    simp (config := { maxSteps := 10000000 }) (disch := omega) only [go_sem, simprocAttr]
theorem textsS {xs : List (List Value)} (h : ∀ x ∈ xs, VS x) (hlen : xs.length ≤ 3000) : EvQ Cx 9 [slS xs] (TxA (txL xs [])) ∧ EvQ Cx 15 [slS xs] (TxA (txL xs [])) := by
  by_cases hxs : xs = []
  · subst hxs
    constructor
    · refine evQ_of CxB9 rfl (by simp [fn9]) ?_
      simp (config := { maxSteps := 10000000 }) (disch := omega) only [go_sem, simprocAttr, slS, flatX, List.flatten_nil]
      rw [runK_loop]
      simp (config := { maxSteps := 10000000 }) (disch := omega) only [go_sem, simprocAttr, passK_in CxB22 CxP22]
      rfl
    · refine evQ_of CxB15 rfl (by simp [fn15]) ?_
      simp (config := { maxSteps := 10000000 }) (disch := omega) only [go_sem, simprocAttr, slS, flatX, List.flatten_nil]
      rw [runK_loop]
      simp (config := { maxSteps := 10000000 }) (disch := omega) only [go_sem, simprocAttr]
      rfl
  · have hsl : slX xs = slS xs := by simp [slX, hxs]
    rw [← hsl]
    exact texts_same h hlen
theorem ltexts_ev {xs : List (List Value)} (h : ∀ x ∈ xs, VS x) (hlen : xs.length ≤ 3000) : EvQ Cx 6 [slS xs] (Bo true) := by
  obtain ⟨h1, h2⟩ := textsS h hlen
  refine evQ_of CxB6 rfl (by simp [fn6]) ?_
  cases htx : txL xs [] with
  | none =>
    rw [htx] at h1 h2
    unfold TxA at h1 h2
    simp (config := { maxSteps := 10000000 }) (disch := omega) only [go_sem, simprocAttr, passK_shut CxP9, QK.use h1, passK_shut CxP15, QK.use h2]
  | some bs =>
    rw [htx] at h1 h2
    unfold TxA at h1 h2
    simp (config := { maxSteps := 10000000 }) (disch := omega) only [go_sem, simprocAttr, passK_shut CxP9, QK.use h1, passK_shut CxP15, QK.use h2]
theorem lp_len {rd : ByteArray → Option (List Value)} {s : ByteArray} {xs : List (List Value)} (h : lp rd s.size s [] 0 = (xs, 0, true)) : xs.length ≤ s.size := by
  obtain ⟨⟨t⟩⟩ := s
  obtain ⟨zs, a1, a2, a3, a4⟩ := lp_ok rd t.length t [] 0 xs (Nat.le_refl _) h
  rw [a2]
  show ([] ++ List.map (fun x : List UInt8 × List Value => x.2) zs).length ≤ t.length
  simpa using a4
theorem lreads_ev {s : ByteArray} (hs : s.size ≤ 2000) : EvQ Cx 7 [Sv s] (Bo true) := by
  obtain ⟨rd, hrd⟩ := rd_ex
  have h1 := Read_ev hrd hs
  have h2 := rRead_ev hrd hs
  refine evQ_of CxB7 rfl (by simp [fn7]) ?_
  rcases lp_cases rd s.size s [] 0 with ⟨xs, hx⟩ | ⟨m, hx⟩
  · have h14 : ∀ x ∈ xs, Is14 x := by
      obtain ⟨⟨t⟩⟩ := s
      obtain ⟨zs, a1, a2, a3, a4⟩ := lp_ok rd t.length t [] 0 xs (Nat.le_refl _) hx
      intro x hx
      rw [a2, List.nil_append] at hx
      obtain ⟨z, hz, rfl⟩ := List.mem_map.1 hx
      obtain ⟨b1, b2⟩ := a1 z hz
      exact ((hrd ⟨⟨z.1⟩⟩ (show z.1.length ≤ 2000 by have : t.length ≤ 2000 := hs; omega)).2 z.2 b1).1
    have hl := lp_len hx
    have h3 := same_ev h14 (by omega)
    rw [hx] at h1 h2
    change EvQ Cx 8 _ (.tup [slX xs, I64 0, I64 0]) at h1
    change EvQ Cx 16 _ (.tup [slX xs, I64 0, I64 0]) at h2
    rcases sl_nil xs with hsl | hsl
    all_goals
      rw [hsl] at h1 h2 h3
      simp (config := { maxSteps := 10000000 }) (disch := omega) only [go_sem, simprocAttr, passK_shut CxP8, QK.use h1, passK_shut CxP16, QK.use h2, passK_shut CxP14, QK.use h3]
  · have h3 := same_ev (xs := []) (fun x h => by cases h) (by simp)
    rw [hx] at h1 h2
    change EvQ Cx 8 _ (.tup [An, I64 m, I64 340]) at h1
    change EvQ Cx 16 _ (.tup [An, I64 m, I64 340]) at h2
    change EvQ Cx 14 [An, An] (Bo true) at h3
    simp (config := { maxSteps := 10000000 }) (disch := omega) only [go_sem, simprocAttr, passK_shut CxP8, QK.use h1, passK_shut CxP16, QK.use h2, passK_shut CxP14, QK.use h3]
noncomputable def XU : FuncId → List A → Option A := XE (CX X5) [5] (XE Cx [6, 7] fun _ _ => none)
theorem XU_ok : QOk Cx.T Tryz.prog XU := XE_ok (CX_ok X5_ok) rfl (XE_ok CxOk rfl qOk_none)
noncomputable def CU : Ctx := CA XU
theorem CU_B : CU.B 3 = some fn3 := CxB3
theorem CU_ok : CtxOk Tryz.prog CU := CA_ok XU_ok
theorem XU_at {f : FuncId} {l : List A} {r : A} (hf : f ∈ ([6, 7] : List FuncId)) (h0 : f ∉ ([5] : List FuncId)) (h : EvQ Cx f l r) : EvQ (CA XU) f l r := evQ_ext (by
  show XU f l = some r
  unfold XU
  rw [XE_miss h0]
  exact XE_hit hf h)
theorem XU_none (l : List A) : XU 3 l = none := by
  unfold XU
  rw [XE_miss (by decide), XE_miss (by decide)]
attribute [go_sem] fn3 m3 g3
theorem WalkTexts_ev {xs : List (List Value)} (hv : ∀ x ∈ xs, VS x) {s : ByteArray} (hs : s.size ≤ maxLen) (hx : xs.length ≤ reachBytes) : EvQ CU 3 [slS xs, Sv s] (Bo true) := by
  have y8 : EvQ (CA XU) 5 [] (bo true) := evQ_ext (XE_hit (by simp) awake_ev)
  refine evQ_of (C := CA XU) (m := fn3) CU_B (XU_none [slS xs, Sv s]) (by simp [fn3]) ?_
  unfold maxLen at hs
  simp only [reachBytes] at hx
  by_cases h1 : xs.length ≤ 100
  · by_cases h2 : s.size ≤ 2000
    · have y6 := XU_at (by simp) (by decide) (ltexts_ev hv (by omega))
      have y7 := XU_at (by simp) (by decide) (lreads_ev h2)
      simp (config := { maxSteps := 10000000 }) (disch := omega) only [CA_T, passK_shut (C := CA XU) (f := 5) rfl, QK.use y8, passK_shut (C := CA XU) (f := 6) rfl, QK.use y6, passK_shut (C := CA XU) (f := 7) rfl, QK.use y7, go_sem, simprocAttr]
    · simp (config := { maxSteps := 10000000 }) (disch := omega) only [CA_T, passK_shut (C := CA XU) (f := 5) rfl, QK.use y8, go_sem, simprocAttr]
  · simp (config := { maxSteps := 10000000 }) (disch := omega) only [CA_T, passK_shut (C := CA XU) (f := 5) rfl, QK.use y8, go_sem, simprocAttr]
/-! the argument -/
theorem vs_of {c : List A} (h : FitsA [.sc (.int .u8), .sc (.int .u8), .sc (.int .u8), .sc (.int .u8), .sc (.int .u8), .sc (.int .u8), .sc (.int .u8), .sc (.int .u8), .sc (.int .u8), .sc .bool, .sc (.int .u8), .sc (.int .u8), .sc (.int .u8), .sc (.int .u8)] c) : ∃ x : List Value, VS x ∧ c = x.map .v := by
  obtain ⟨_, _, rfl, a0, h0⟩ := fitsA_cons h
  obtain ⟨x0, rfl, b0⟩ := sh_u8 a0
  obtain ⟨_, _, rfl, a1, h1⟩ := fitsA_cons h0
  obtain ⟨x1, rfl, b1⟩ := sh_u8 a1
  obtain ⟨_, _, rfl, a2, h2⟩ := fitsA_cons h1
  obtain ⟨x2, rfl, b2⟩ := sh_u8 a2
  obtain ⟨_, _, rfl, a3, h3⟩ := fitsA_cons h2
  obtain ⟨x3, rfl, b3⟩ := sh_u8 a3
  obtain ⟨_, _, rfl, a4, h4⟩ := fitsA_cons h3
  obtain ⟨x4, rfl, b4⟩ := sh_u8 a4
  obtain ⟨_, _, rfl, a5, h5⟩ := fitsA_cons h4
  obtain ⟨x5, rfl, b5⟩ := sh_u8 a5
  obtain ⟨_, _, rfl, a6, h6⟩ := fitsA_cons h5
  obtain ⟨x6, rfl, b6⟩ := sh_u8 a6
  obtain ⟨_, _, rfl, a7, h7⟩ := fitsA_cons h6
  obtain ⟨x7, rfl, b7⟩ := sh_u8 a7
  obtain ⟨_, _, rfl, a8, h8⟩ := fitsA_cons h7
  obtain ⟨x8, rfl, b8⟩ := sh_u8 a8
  obtain ⟨_, _, rfl, a9, h9⟩ := fitsA_cons h8
  obtain ⟨x9, rfl⟩ := sh_bool a9
  obtain ⟨_, _, rfl, a10, h10⟩ := fitsA_cons h9
  obtain ⟨x10, rfl, b10⟩ := sh_u8 a10
  obtain ⟨_, _, rfl, a11, h11⟩ := fitsA_cons h10
  obtain ⟨x11, rfl, b11⟩ := sh_u8 a11
  obtain ⟨_, _, rfl, a12, h12⟩ := fitsA_cons h11
  obtain ⟨x12, rfl, b12⟩ := sh_u8 a12
  obtain ⟨_, _, rfl, a13, h13⟩ := fitsA_cons h12
  obtain ⟨x13, rfl, b13⟩ := sh_u8 a13
  obtain rfl := fitsA_nil h13
  have q : ∀ {y : Int}, 0 ≤ y ∧ y ≤ 255 → 0 ≤ y ∧ y < 256 := fun h => by omega
  exact ⟨st14 x0 x1 x2 x3 x4 x5 x6 x7 x8 x9 x10 x11 x12 x13, ⟨_, _, _, _, _, _, _, _, _, _, _, _, _, _, ⟨q b0, q b1, q b2⟩, ⟨q b3, q b4, q b5, q b6, q b7, q b8, q b10, q b11, q b12, q b13⟩, rfl⟩, rfl⟩
theorem steps_of {a : A} (h : shFits (.sl [.sc (.int .u8), .sc (.int .u8), .sc (.int .u8), .sc (.int .u8), .sc (.int .u8), .sc (.int .u8), .sc (.int .u8), .sc (.int .u8), .sc (.int .u8), .sc .bool, .sc (.int .u8), .sc (.int .u8), .sc (.int .u8), .sc (.int .u8)]) a) : ∃ xs : List (List Value), (∀ x ∈ xs, VS x) ∧ xs.length ≤ reachBytes ∧ a = slS xs := by
  obtain ⟨l, rfl, hl, hc⟩ := sh_sl h
  obtain ⟨xs, h1, rfl⟩ := lift_list (p := VS) (f := fun x => x.map A.v) fun c hc' => vs_of (hc c hc')
  refine ⟨xs, h1, by simpa using hl, ?_⟩
  have : (xs.map fun x => x.map A.v).flatten = flatX xs := by
    unfold flatX
    rw [List.map_flatten]
  rw [this, List.length_map]
end Go.Proofs.YtijpomemobgddaaGreatDoor.Ev
