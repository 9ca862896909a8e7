/- msg.Text: what it gives. -/
import Derived.Test.YtijpomemobgddaaGreatDoorS2
set_option linter.unusedSimpArgs false
set_option linter.unusedVariables false
namespace Go.Proofs.YtijpomemobgddaaGreatDoor.Ev
open Go Go.RowKit
set_option maxRecDepth 100000
theorem mxl : maxLen = 9223372036854775807 := rfl
attribute [go_sem] mxl
def joinB (xs : List ByteArray) : ByteArray := ⟨(Lib.join (xs.map (·.data.toList)) sSp.data.toList).toArray⟩
theorem strsA_map : ∀ xs : List ByteArray, strsA (xs.map Sv) = some xs
  | [] => rfl
  | x :: xs => by
    rw [List.map_cons]
    simp only [strsA, strsA_map xs]
theorem tail_len (xs : List ByteArray) (h : ∀ x ∈ xs, x.size ≤ 10) : (Lib.joinTail sSp.data.toList (xs.map (·.data.toList))).length ≤ xs.length * 11 := by
  induction xs with
  | nil => simp [Lib.joinTail]
  | cons x xs ih =>
    have h1 := h x (.head _)
    have h2 := ih fun y hy => h y (.tail _ hy)
    have h3 : x.data.toList.length ≤ 10 := h1
    simp only [Lib.joinTail, List.map_cons, List.flatten_cons, List.length_append, List.map_map] at h2 ⊢
    simp only [List.length_cons, Nat.add_mul, Nat.one_mul]
    have h4 : sSp.data.toList.length = 1 := rfl
    omega
theorem joinB_size {xs : List ByteArray} (h : ∀ x ∈ xs, x.size ≤ 10) : (joinB xs).size ≤ xs.length * 11 := by
  show (Lib.join (xs.map (·.data.toList)) sSp.data.toList).length ≤ _
  cases xs with
  | nil => simp [Lib.join, List.intercalate]
  | cons x xs =>
    rw [List.map_cons, Lib.join_cons, List.length_append]
    have h1 := h x (.head _)
    have h2 := tail_len xs fun y hy => h y (.tail _ hy)
    have h3 : x.data.toList.length ≤ 10 := h1
    simp only [List.length_cons, Nat.add_mul, Nat.one_mul]
    omega
theorem join_ev {xs : List ByteArray} (hn : xs.length ≤ 20) (h : ∀ x ∈ xs, x.size ≤ 10) : EvQ Cx 69 [.sl xs.length (xs.map Sv), Sv sSp] (Sv (joinB xs)) := by
  refine evQ_ext ?_
  have hx : Cx.X = xLibs := rfl
  have hs := joinB_size h
  have hs' : (Lib.join (xs.map (·.data.toList)) sSp.data.toList).length ≤ 140737488355328 := Nat.le_trans hs (by omega)
  rw [hx]
  have e1 : Nat.ble xs.length 140737488355328 = true := Nat.ble_eq_true_of_le (by omega)
  have e2 := Nat.ble_eq_true_of_le hs'
  unfold xLibs
  rw [Nat.beq_refl, cond_true]
  unfold joinX
  simp only [strsA_map, Nat.beq_refl, e1, e2, Bool.and_self, cond_true]
  rfl
theorem join_use {xs : List ByteArray} {n : Nat} {cs : List A} (hc : strsA cs = some xs) (hl : xs.length = n) (hn : n ≤ 20) (h : ∀ x ∈ xs, x.size ≤ 10) : EvQ Cx 69 [.sl n cs, Sv sSp] (Sv (joinB xs)) := by
  have : ∀ {cs : List A} {xs : List ByteArray}, strsA cs = some xs → cs = xs.map Sv := by
    intro cs
    induction cs with
    | nil =>
      intro xs h
      simp only [strsA, Option.some.injEq] at h
      subst h
      rfl
    | cons c cs ih =>
      intro xs h
      unfold strsA at h
      split at h
      · rename_i heq
        cases heq
      · rename_i s l heq
        injection heq with e1 e2
        subst e1
        subst e2
        split at h
        · rename_i r hr
          obtain rfl := Option.some.inj h
          rw [ih hr]
          rfl
        · cases h
      · cases h
  rw [this hc, ← hl]
  exact join_ev (by omega) h
theorem leaf_join {xs : List ByteArray} {n : Nat} {cs : List A} {b : Bool} {dst : Option Nat} {m : Nat} {ms : List MOp} {st : Ev.St} {k : List It} {Q : Ex → Ev.St → Prop} (h1 : strsA cs = some xs) (h2 : xs.length = n) (hn : n ≤ 20) (hs : ∀ x ∈ xs, x.size ≤ 10)
    (h : OpsK Cx m ms ⟨put st.env dst (Sv (joinB xs)), st.H⟩ k Q) : QK Cx 69 [.sl n cs, Sv sSp] b dst m ms st k Q := (QK.use (join_use h1 h2 hn hs)).2 ⟨by cases b <;> rfl, h⟩
theorem p69 : isPass Cx 69 = false := rfl
/-- The class of a kind is there or not. -/
def isKind (k : Int) : Bool := decide (1 ≤ k ∧ k ≤ 12)
def clsF (k : Int) : Int := if k ≤ 0 then 0 else if k ≤ 3 then 1 else if k ≤ 5 then 3 else if k ≤ 9 then 2 else if k ≤ 12 then 3 else 0
theorem cls_ev {k : Int} (hk : 0 ≤ k ∧ k < 256) : EvQ Cx 68 [I8 k] (I8 (clsF k)) := by
  by_cases h : k < 13
  · have h13 : k = 0 ∨ k = 1 ∨ k = 2 ∨ k = 3 ∨ k = 4 ∨ k = 5 ∨ k = 6 ∨ k = 7 ∨ k = 8 ∨ k = 9 ∨ k = 10 ∨ k = 11 ∨ k = 12 := by omega
    rcases h13 with rfl | rfl | rfl | rfl | rfl | rfl | rfl | rfl | rfl | rfl | rfl | rfl | rfl <;> exact evQ_fast 100 (by kernel_rfl)
  · have hc : clsF k = 0 := by unfold clsF; split <;> (try split) <;> (try split) <;> (try split) <;> (try split) <;> omega
    rw [hc]
    refine evQ_of CxB68 rfl (by simp [fn68]) ?_
    simp (config := { maxSteps := 10000000 }) (disch := omega) only [go_sem, simprocAttr]
def nameF (k : Int) : ByteArray := match (Cx.T.gl.tab 0).bind fun l => l[k.toNat]? with
  | some (.string s) => s
  | _ => .empty
def namesR (k : Int) : List A := match Cx.T.gl.tab 0 with
  | some l => (l.drop (k.toNat + 1)).map .v
  | none => []
theorem rdN {H : Heap} {k : Int} (hk : 1 ≤ k ∧ k ≤ 12) : readL Cx.T.gl.tab H (.v (.pointer (some ⟨0, k.toNat * 1, none⟩))) = some (Sv (nameF k) :: namesR k) := by
  have h13 : k = 1 ∨ k = 2 ∨ k = 3 ∨ k = 4 ∨ k = 5 ∨ k = 6 ∨ k = 7 ∨ k = 8 ∨ k = 9 ∨ k = 10 ∨ k = 11 ∨ k = 12 := by omega
  rcases h13 with rfl | rfl | rfl | rfl | rfl | rfl | rfl | rfl | rfl | rfl | rfl | rfl <;> rfl
theorem nameF_size (k : Int) (hk : 1 ≤ k ∧ k ≤ 12) : (nameF k).size ≤ 6 := by
  have h13 : k = 1 ∨ k = 2 ∨ k = 3 ∨ k = 4 ∨ k = 5 ∨ k = 6 ∨ k = 7 ∨ k = 8 ∨ k = 9 ∨ k = 10 ∨ k = 11 ∨ k = 12 := by omega
  rcases h13 with rfl | rfl | rfl | rfl | rfl | rfl | rfl | rfl | rfl | rfl | rfl | rfl <;> decide
theorem dig2_ev {n : Int} (h : 0 ≤ n ∧ n < 256) : EvQ Cx 67 [I8 n] (Sv (digB n)) := by
  refine evQ_of CxB67 rfl (by simp [fn67]) ?_
  have hi := itoa_ev (n := n) (by omega)
  simp (config := { maxSteps := 10000000 }) (disch := omega) only [go_sem, simprocAttr, passK_shut p40, QK.use hi]
def sKind : ByteArray := ⟨#[107, 105, 110, 100]⟩
def sLine : ByteArray := ⟨#[108, 105, 110, 101]⟩
def sAsker : ByteArray := ⟨#[97, 115, 107, 101, 114]⟩
def sAcks : ByteArray := ⟨#[97, 99, 107, 115]⟩
def sAlone : ByteArray := ⟨#[97, 108, 111, 110, 101]⟩
def sData : ByteArray := ⟨#[100, 97, 116, 97]⟩
def sGt : ByteArray := ⟨#[62]⟩
def wordsM (k f t l a c : Int) (b : Bool) (d0 d1 d2 d3 : Int) : List ByteArray :=
  (if clsF k = 0 then [sKind, digB k] else [nameF k]) ++ [digB f ++ sGt ++ digB t, sLine, digB l] ++ (if a = 0 then [] else [sAsker, digB a]) ++ (if c = 0 then [] else [sAcks, digB c]) ++ (if b then [sAlone] else []) ++
    (if (d0 == 0 && (d1 == 0 && (d2 == 0 && d3 == 0))) = true then [] else [sData, digB d0, digB d1, digB d2, digB d3])
set_option maxHeartbeats 4000000 in
theorem text_ev {k f t l a c d0 d1 d2 d3 : Int} {b : Bool} (hk : 0 ≤ k ∧ k < 256) (hf : 0 ≤ f ∧ f < 256) (ht : 0 ≤ t ∧ t < 256) (hl : 0 ≤ l ∧ l < 256) (ha : 0 ≤ a ∧ a < 256) (hc : 0 ≤ c ∧ c < 256) (h0 : 0 ≤ d0 ∧ d0 < 256) (h1 : 0 ≤ d1 ∧ d1 < 256) (h2 : 0 ≤ d2 ∧ d2 < 256) (h3 : 0 ≤ d3 ∧ d3 < 256) :
    EvQ Cx 44 [.agg (msgA k f t l a c b d0 d1 d2 d3)] (Sv (joinB (wordsM k f t l a c b d0 d1 d2 d3))) := by
  have ek := cls_ev hk
  have xf := dig2_ev hf
  have xt := dig2_ev ht
  have xl := dig2_ev hl
  have xa := dig2_ev ha
  have xc := dig2_ev hc
  have x0 := dig2_ev h0
  have x1 := dig2_ev h1
  have x2 := dig2_ev h2
  have x3 := dig2_ev h3
  have zf := digB_size (n := f) (by omega)
  have zt := digB_size (n := t) (by omega)
  have zk := digB_size (n := k) (by omega)
  have zl := digB_size (n := l) (by omega)
  have za := digB_size (n := a) (by omega)
  have zc := digB_size (n := c) (by omega)
  have z0 := digB_size (n := d0) (by omega)
  have z1 := digB_size (n := d1) (by omega)
  have z2 := digB_size (n := d2) (by omega)
  have z3 := digB_size (n := d3) (by omega)
  refine evQ_of CxB44 rfl (by simp [fn44]) ?_
  by_cases hcl : clsF k = 0
  · have xk := dig2_ev hk
    have hb : (clsF k != 0) = false := by simp [hcl]
    simp (config := { maxSteps := 10000000 }) (disch := omega) only [go_sem, simprocAttr, msgA, passK_shut CxP68, QK.use ek, hb, passK_shut CxP67, QK.use xk, QK.use xf, QK.use xt, QK.use xl]
    (by_cases ea : a = 0 <;> simp (config := { maxSteps := 10000000 }) (disch := omega) only [go_sem, simprocAttr, passK_shut CxP67, QK.use xa]) <;> (by_cases ec : c = 0 <;> simp (config := { maxSteps := 10000000 }) (disch := omega) only [go_sem, simprocAttr, passK_shut CxP67, QK.use xc]) <;> (cases b <;> simp (config := { maxSteps := 10000000 }) (disch := omega) only [go_sem, simprocAttr]) <;> (cases hd : (d0 == 0 && (d1 == 0 && (d2 == 0 && d3 == 0))) <;> simp (config := { maxSteps := 10000000 }) (disch := omega) only [go_sem, simprocAttr, hd]) <;> (try (rw [runK_loop]; simp (config := { maxSteps := 10000000 }) (disch := omega) only [go_sem, simprocAttr, passK_shut CxP67, QK.use x0]; rw [runK_loop]; simp (config := { maxSteps := 10000000 }) (disch := omega) only [go_sem, simprocAttr, passK_shut CxP67, QK.use x1]; rw [runK_loop]; simp (config := { maxSteps := 10000000 }) (disch := omega) only [go_sem, simprocAttr, passK_shut CxP67, QK.use x2]; rw [runK_loop]; simp (config := { maxSteps := 10000000 }) (disch := omega) only [go_sem, simprocAttr, passK_shut CxP67, QK.use x3]; rw [runK_loop]; simp (config := { maxSteps := 10000000 }) (disch := omega) only [go_sem, simprocAttr])) <;> simp (config := { maxSteps := 10000000 }) (disch := omega) only [go_sem, simprocAttr, passK_shut p69] <;> (apply leaf_join; rfl; rfl; decide; (simp only [List.forall_mem_cons, List.not_mem_nil, false_implies, implies_true, and_true]; and_intros <;> first | decide | omega | (simp only [ByteArray.size_append, sz_mk, sz_arr, List.length_cons, List.length_nil]; omega)); simp (config := { maxSteps := 10000000 }) (disch := omega) only [go_sem, simprocAttr]; simp only [wordsM, hcl, ea, ec, hd, if_true, if_false, Bool.false_eq_true]; rfl)
  · have hk' : 1 ≤ k ∧ k ≤ 12 := by
      unfold clsF at hcl
      split at hcl
      · exact absurd rfl hcl
      · repeat' (split at hcl)
        all_goals (first | omega | exact absurd rfl hcl)
    have hb : (clsF k != 0) = true := by simp [hcl]
    have zn := nameF_size k hk'
    simp (config := { maxSteps := 10000000 }) (disch := omega) only [↓ rdN hk', go_sem, simprocAttr, msgA, passK_shut CxP68, QK.use ek, hb, passK_shut CxP67, QK.use xf, QK.use xt, QK.use xl]
    (by_cases ea : a = 0 <;> simp (config := { maxSteps := 10000000 }) (disch := omega) only [go_sem, simprocAttr, passK_shut CxP67, QK.use xa]) <;> (by_cases ec : c = 0 <;> simp (config := { maxSteps := 10000000 }) (disch := omega) only [go_sem, simprocAttr, passK_shut CxP67, QK.use xc]) <;> (cases b <;> simp (config := { maxSteps := 10000000 }) (disch := omega) only [go_sem, simprocAttr]) <;> (cases hd : (d0 == 0 && (d1 == 0 && (d2 == 0 && d3 == 0))) <;> simp (config := { maxSteps := 10000000 }) (disch := omega) only [go_sem, simprocAttr, hd]) <;> (try (rw [runK_loop]; simp (config := { maxSteps := 10000000 }) (disch := omega) only [go_sem, simprocAttr, passK_shut CxP67, QK.use x0]; rw [runK_loop]; simp (config := { maxSteps := 10000000 }) (disch := omega) only [go_sem, simprocAttr, passK_shut CxP67, QK.use x1]; rw [runK_loop]; simp (config := { maxSteps := 10000000 }) (disch := omega) only [go_sem, simprocAttr, passK_shut CxP67, QK.use x2]; rw [runK_loop]; simp (config := { maxSteps := 10000000 }) (disch := omega) only [go_sem, simprocAttr, passK_shut CxP67, QK.use x3]; rw [runK_loop]; simp (config := { maxSteps := 10000000 }) (disch := omega) only [go_sem, simprocAttr])) <;> simp (config := { maxSteps := 10000000 }) (disch := omega) only [go_sem, simprocAttr, passK_shut p69] <;> (apply leaf_join; rfl; rfl; decide; (simp only [List.forall_mem_cons, List.not_mem_nil, false_implies, implies_true, and_true]; and_intros <;> first | decide | omega | (simp only [ByteArray.size_append, sz_mk, sz_arr, List.length_cons, List.length_nil]; omega)); simp (config := { maxSteps := 10000000 }) (disch := omega) only [go_sem, simprocAttr]; simp only [wordsM, hcl, ea, ec, hd, if_true, if_false, Bool.false_eq_true]; rfl)
end Go.Proofs.YtijpomemobgddaaGreatDoor.Ev
