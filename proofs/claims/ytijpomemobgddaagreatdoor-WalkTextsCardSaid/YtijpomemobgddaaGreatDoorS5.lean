/- msg.scan: it gives something, whatever the words. -/
import Derived.Test.YtijpomemobgddaaGreatDoorS4
set_option linter.unusedSimpArgs false
set_option linter.unusedVariables false
namespace Go.Proofs.YtijpomemobgddaaGreatDoor.Ev
open Go Go.RowKit
set_option maxRecDepth 100000
theorem bs_ne {a s : ByteArray} (h : ¬ s = a) : (a.toList == s.toList) = false := by
  rw [ByteArray.toList_eq, ByteArray.toList_eq]
  cases hb : (a.data.toList == s.data.toList) with
  | false => rfl
  | true =>
    have := eq_of_beq hb
    exact absurd (ByteArray.ext (Array.ext' this.symm)) h
theorem kind_ev (s : ByteArray) : ∃ k : Int, (0 ≤ k ∧ k < 256) ∧ EvQ Cx 101 [Sv s] (I8 k) := by
  by_cases h0 : s = ⟨#[]⟩
  · subst h0
    exact ⟨0, by decide, evQ_fast 300 (by kernel_rfl)⟩
  by_cases h1 : s = ⟨#[71, 101, 116, 83]⟩
  · subst h1
    exact ⟨1, by decide, evQ_fast 300 (by kernel_rfl)⟩
  by_cases h2 : s = ⟨#[71, 101, 116, 77]⟩
  · subst h2
    exact ⟨2, by decide, evQ_fast 300 (by kernel_rfl)⟩
  by_cases h3 : s = ⟨#[80, 117, 116]⟩
  · subst h3
    exact ⟨3, by decide, evQ_fast 300 (by kernel_rfl)⟩
  by_cases h4 : s = ⟨#[68, 111, 110, 101]⟩
  · subst h4
    exact ⟨4, by decide, evQ_fast 300 (by kernel_rfl)⟩
  by_cases h5 : s = ⟨#[67, 111, 112, 121]⟩
  · subst h5
    exact ⟨5, by decide, evQ_fast 300 (by kernel_rfl)⟩
  by_cases h6 : s = ⟨#[70, 119, 100, 83]⟩
  · subst h6
    exact ⟨6, by decide, evQ_fast 300 (by kernel_rfl)⟩
  by_cases h7 : s = ⟨#[70, 119, 100, 77]⟩
  · subst h7
    exact ⟨7, by decide, evQ_fast 300 (by kernel_rfl)⟩
  by_cases h8 : s = ⟨#[73, 110, 118]⟩
  · subst h8
    exact ⟨8, by decide, evQ_fast 300 (by kernel_rfl)⟩
  by_cases h9 : s = ⟨#[80, 117, 116, 65, 99, 107]⟩
  · subst h9
    exact ⟨9, by decide, evQ_fast 300 (by kernel_rfl)⟩
  by_cases h10 : s = ⟨#[86, 97, 108, 117, 101]⟩
  · subst h10
    exact ⟨10, by decide, evQ_fast 300 (by kernel_rfl)⟩
  by_cases h11 : s = ⟨#[71, 114, 97, 110, 116]⟩
  · subst h11
    exact ⟨11, by decide, evQ_fast 300 (by kernel_rfl)⟩
  by_cases h12 : s = ⟨#[73, 110, 118, 65, 99, 107]⟩
  · subst h12
    exact ⟨12, by decide, evQ_fast 300 (by kernel_rfl)⟩
  refine ⟨0, by decide, ?_⟩
  refine evQ_of CxB101 rfl (by simp [fn101]) ?_
  have b0 := bs_ne h0
  have b1 := bs_ne h1
  have b2 := bs_ne h2
  have b3 := bs_ne h3
  have b4 := bs_ne h4
  have b5 := bs_ne h5
  have b6 := bs_ne h6
  have b7 := bs_ne h7
  have b8 := bs_ne h8
  have b9 := bs_ne h9
  have b10 := bs_ne h10
  have b11 := bs_ne h11
  have b12 := bs_ne h12
  simp (config := { maxSteps := 10000000 }) (disch := omega) only [go_sem, simprocAttr]
  iterate 14 (rw [runK_loop]; simp (config := { maxSteps := 10000000 }) (disch := omega) only [go_sem, simprocAttr, b0, b1, b2, b3, b4, b5, b6, b7, b8, b9, b10, b11, b12])
/-- The boxes of scan: words, the message, ok, next. -/
def scH (ws : List ByteArray) (m : List A) (ok : Bool) : Heap := [some ⟨32, [.sl ws.length (ws.map Sv)], true⟩, some ⟨77, m, true⟩, some ⟨4, [Bo ok], true⟩, some ⟨97, [.clo 98 [] [.ptr 0 0, .ptr 2 0]], true⟩]
def hdW (ws : List ByteArray) : ByteArray := ws.headD ⟨⟨[]⟩⟩
theorem next_k {ws : List ByteArray} {m : List A} {ok : Bool} {dst : Option Nat} {ms : List MOp} {e : Env} {k : List It} {Q : Ex → Ev.St → Prop} :
    PassK Cx 98 [.ptr 0 0, .ptr 2 0] dst ms ⟨e, scH ws m ok⟩ k Q ↔ OpsK Cx 0 ms ⟨put e dst (Sv (hdW ws)), scH ws.tail m (ok && !ws.isEmpty)⟩ k Q := by
  cases ws with
  | nil => simp (config := { maxSteps := 10000000 }) (disch := omega) only [go_sem, simprocAttr, scH, hdW, List.headD_nil, List.tail_nil, passK_in CxB98 CxP98]
  | cons w ws =>
    have ht : List.take ws.length (ws.map Sv) = ws.map Sv := List.take_of_length_le (by simp)
    simp (config := { maxSteps := 10000000 }) (disch := omega) only [go_sem, simprocAttr, scH, hdW, List.headD_cons, List.tail_cons, Nat.mul_one, List.length_map, ht, passK_in CxB98 CxP98]
/-- The next word is this one. -/
def skB (w : ByteArray) (ws : List ByteArray) : Bool := !ws.isEmpty && (hdW ws).toList == w.toList
theorem skip_k {w : ByteArray} {ws : List ByteArray} {m : List A} {ok : Bool} {dst : Option Nat} {ms : List MOp} {e : Env} {k : List It} {Q : Ex → Ev.St → Prop} :
    PassK Cx 100 [Sv w, .ptr 0 0, .ptr 3 0] dst ms ⟨e, scH ws m ok⟩ k Q ↔ OpsK Cx 0 ms ⟨put e dst (Bo (skB w ws)), scH (if skB w ws then ws.tail else ws) m ok⟩ k Q := by
  cases ws with
  | nil => simp (config := { maxSteps := 10000000 }) (disch := omega) only [go_sem, simprocAttr, scH, skB, hdW, List.headD_nil, List.tail_nil, passK_in CxB100 CxP100]
  | cons x ws =>
    have ht : List.take ws.length (ws.map Sv) = ws.map Sv := List.take_of_length_le (by simp)
    cases hb : (x.toList == w.toList) with
    | false =>
      have hs : skB w (x :: ws) = false := by simpa [skB, hdW] using hb
      simp (config := { maxSteps := 10000000 }) (disch := omega) only [go_sem, simprocAttr, scH, hs, hb, passK_in CxB100 CxP100]
    | true =>
      have hs : skB w (x :: ws) = true := by simpa [skB, hdW] using hb
      simp (config := { maxSteps := 10000000 }) (disch := omega) only [go_sem, simprocAttr, scH, hs, hb, List.tail_cons, Nat.mul_one, List.length_map, ht, passK_in CxB100 CxP100, passK_in CxB98 CxP98]
theorem passK_xo {C : Ctx} {f : FuncId} {g : List A → Heap → Option (A × Heap)} {zs : List A} {dst : Option Nat} {ms : List MOp} {e : Env} {H : Heap} {k : List It} {Q : Ex → Ev.St → Prop} {x : A} {H' : Heap} (hO : C.XO f = some g) (h : g zs H = some (x, H')) :
    PassK C f zs dst ms ⟨e, H⟩ k Q ↔ OpsK C 0 ms ⟨put e dst x, H'⟩ k Q := by
  have h0 : EvO C f zs H x H' := ⟨1, by simp only [callQ.callO, hO, h]⟩
  constructor
  · rintro ⟨x1, H1, h1, h2⟩
    obtain ⟨rfl, rfl⟩ := h0.one h1
    exact h2
  · exact fun h2 => ⟨x, H', h0, h2⟩
theorem num_k {s : ByteArray} (hs : s.size ≤ 281474976710656) {ws : List ByteArray} {m : List A} {ok : Bool} {dst : Option Nat} {ms : List MOp} {e : Env} {k : List It} {Q : Ex → Ev.St → Prop} :
    PassK Cx 99 [Sv s, .ptr 2 0] dst ms ⟨e, scH ws m ok⟩ k Q ↔ OpsK Cx 0 ms ⟨put e dst (I8 ((numF s).getD 0 : Nat)), scH ws m (ok && (numF s).isSome)⟩ k Q := by
  refine passK_xo (g := numO) rfl ?_
  have h1 : Nat.ble s.size 281474976710656 = true := Nat.ble_eq_true_of_le hs
  simp [numO, scH, h1]
theorem cutA_size (c : Nat) (s : ByteArray) : (cutA c s).1.size ≤ s.size ∧ (cutA c s).2.1.size ≤ s.size := by
  unfold cutA
  split
  · constructor <;> simp <;> omega
  · exact ⟨Nat.le_refl _, Nat.zero_le _⟩
theorem hdW_size {ws : List ByteArray} (h : ∀ x ∈ ws, x.size ≤ 2000) (n : Nat) : (hdW (ws.drop n)).size ≤ 2000 := by
  unfold hdW
  cases hd : ws.drop n with
  | nil => exact Nat.zero_le _
  | cons x l => exact h x (List.mem_of_mem_drop (by rw [hd]; exact .head _))
end Go.Proofs.YtijpomemobgddaaGreatDoor.Ev
