/- msg.scan gives something, whatever the words. -/
import Derived.Test.YtijpomemobgddaaGreatDoorS5
set_option linter.unusedSimpArgs false
set_option linter.unusedVariables false
namespace Go.Proofs.YtijpomemobgddaaGreatDoor.Ev
open Go Go.RowKit
set_option maxRecDepth 100000
def Good (r0 : A) : Prop := ∃ (k f t l a c : Int) (b : Bool) (d0 d1 d2 d3 : Int) (r : Bool), ((0 ≤ k ∧ k < 256) ∧ (0 ≤ f ∧ f < 256) ∧ (0 ≤ t ∧ t < 256) ∧ (0 ≤ l ∧ l < 256) ∧ (0 ≤ a ∧ a < 256) ∧ (0 ≤ c ∧ c < 256) ∧ (0 ≤ d0 ∧ d0 < 256) ∧ (0 ≤ d1 ∧ d1 < 256) ∧ (0 ≤ d2 ∧ d2 < 256) ∧ (0 ≤ d3 ∧ d3 < 256)) ∧ r0 = .tup [.agg (msgA k f t l a c b d0 d1 d2 d3), Bo r]
theorem numF_rng (s : ByteArray) : 0 ≤ (((numF s).getD 0 : Nat) : Int) ∧ (((numF s).getD 0 : Nat) : Int) < 256 := by
  unfold numF
  split
  · rename_i u h
    have := numF_le h
    simp
    omega
  · simp
def Sz (ws : List ByteArray) : Prop := ∀ x ∈ ws, x.size ≤ 2000
def MOk (m : List A) : Prop := ∃ (k f t l a c : Int) (b : Bool) (d0 d1 d2 d3 : Int), ((0 ≤ k ∧ k < 256) ∧ (0 ≤ f ∧ f < 256) ∧ (0 ≤ t ∧ t < 256) ∧ (0 ≤ l ∧ l < 256) ∧ (0 ≤ a ∧ a < 256) ∧ (0 ≤ c ∧ c < 256) ∧ (0 ≤ d0 ∧ d0 < 256) ∧ (0 ≤ d1 ∧ d1 < 256) ∧ (0 ≤ d2 ∧ d2 < 256) ∧ (0 ≤ d3 ∧ d3 < 256)) ∧ m = msgA k f t l a c b d0 d1 d2 d3
theorem Sz.tl {ws : List ByteArray} (h : Sz ws) : Sz ws.tail := fun x hx => h x (List.mem_of_mem_tail hx)
theorem Sz.hd {ws : List ByteArray} (h : Sz ws) : (hdW ws).size ≤ 4294967296 := Nat.le_trans (hdW_size h 0) (by omega)
theorem Sz.hn {ws : List ByteArray} (h : Sz ws) : (hdW ws).size ≤ 281474976710656 := Nat.le_trans h.hd (by omega)
theorem Sz.c1 {ws : List ByteArray} (h : Sz ws) : (cutA 62 (hdW ws)).1.size ≤ 281474976710656 := Nat.le_trans (cutA_size 62 (hdW ws)).1 h.hn
theorem Sz.c2 {ws : List ByteArray} (h : Sz ws) : (cutA 62 (hdW ws)).2.1.size ≤ 281474976710656 := Nat.le_trans (cutA_size 62 (hdW ws)).2 h.hn
theorem join2 {f : FuncId} {zs : List A} {dst : Option Nat} {ms : List MOp} {E : Env} {k : List It} {F : A → Ex → Ev.St → Prop} {W1 W2 : List ByteArray} {M1 M2 : List A} {o1 o2 : Bool}
    (h : ∀ ws m ok, Sz ws → MOk m → ∃ r0, PassK Cx f zs dst ms ⟨E, scH ws m ok⟩ k (F r0) ∧ Good r0) (s1 : Sz W1) (m1 : MOk M1) (s2 : Sz W2) (m2 : MOk M2) :
    (∃ r0, PassK Cx f zs dst ms ⟨E, scH W1 M1 o1⟩ k (F r0) ∧ Good r0) ∧ (∃ r0, PassK Cx f zs dst ms ⟨E, scH W2 M2 o2⟩ k (F r0) ∧ Good r0) := ⟨h _ _ _ s1 m1, h _ _ _ s2 m2⟩
section
variable (ws : List ByteArray) (m : List A) (ok : Bool)
theorem sc_get0 : (scH ws m ok)[0]? = some (some ⟨32, [.sl ws.length (ws.map Sv)], true⟩) := rfl
theorem sc_get1 : (scH ws m ok)[1]? = some (some ⟨77, m, true⟩) := rfl
theorem sc_get2 : (scH ws m ok)[2]? = some (some ⟨4, [Bo ok], true⟩) := rfl
theorem sc_get3 : (scH ws m ok)[3]? = some (some ⟨97, [.clo 98 [] [.ptr 0 0, .ptr 2 0]], true⟩) := rfl
theorem sc_set1 (m' : List A) : (scH ws m ok).set 1 (some ⟨77, m', true⟩) = scH ws m' ok := rfl
theorem sc_set2 (b : Bool) : (scH ws m ok).set 2 (some ⟨4, [.v (.bool b)], true⟩) = scH ws m b := rfl
theorem sc_fold : [some ⟨32, [.sl ws.length (ws.map Sv)], true⟩, some ⟨77, m, true⟩, some ⟨4, [.v (.bool ok)], true⟩, some ⟨97, [.clo 98 [] [.ptr 0 0, .ptr 2 0]], true⟩] = scH ws m ok := rfl
end
theorem cut62_k {s : ByteArray} (hs : s.size ≤ 4294967296) {b : Bool} {dst : Option Nat} {m : Nat} {ms : List MOp} {e : Env} {H : Heap} {k : List It} {Q : Ex → Ev.St → Prop} :
    QK Cx 35 [Sv s, Sv ⟨⟨[⟨62#8⟩]⟩⟩] b dst m ms ⟨e, H⟩ k Q ↔ OpsK Cx m ms ⟨put e dst (.tup [Sv (cutA 62 s).1, Sv (cutA 62 s).2.1, Bo (cutA 62 s).2.2]), H⟩ k Q := by
  have h : EvQ Cx 35 [Sv s, Sv ⟨⟨[⟨62#8⟩]⟩⟩] (.tup [Sv (cutA 62 s).1, Sv (cutA 62 s).2.1, Bo (cutA 62 s).2.2]) := cut_ev s hs 62
  rw [QK.use h]
  exact ⟨fun x => x.2, fun x => ⟨by cases b <;> rfl, x⟩⟩
theorem ba_refl (x : ByteArray) : (x == x) = true := by
  cases x with
  | mk d => exact (beq_self_eq_true d : (d == d) = true)
theorem eqL_sv : ∀ l : List ByteArray, eqL (l.map Sv) (l.map Sv) = true
  | [] => by simp [eqL]
  | x :: l => by simp [eqL, eqA, eqV, eqL_sv l, ba_refl]
theorem scan_ev (ws : List ByteArray) (hs : Sz ws) : ∃ r0, EvQ Cx 63 [.sl ws.length (ws.map Sv)] r0 ∧ Good r0 := by
  have ex : ∃ r0, RunK Cx [.code m63] ⟨argE 0 [.sl ws.length (ws.map Sv)], []⟩ (FinQ Cx.T .shut fn63.res r0) ∧ Good r0 := by
    obtain ⟨kk, hkk, ek⟩ := kind_ev (hdW ws)
    simp (config := { maxSteps := 10000000 }) (disch := omega) only [go_sem, simprocAttr]
    simp only [sc_fold, skip_k]
    generalize skB _ _ = b1
    revert b1
    rw [Bool.forall_bool]
    simp (config := { maxSteps := 10000000 }) (disch := omega) only [go_sem, simprocAttr, next_k, num_k hs.hn, num_k hs.tl.hn, num_k hs.tl.tl.hn, num_k hs.tl.tl.tl.hn, num_k hs.tl.tl.tl.tl.hn, num_k hs.tl.tl.tl.tl.tl.hn, num_k hs.c1, num_k hs.c2, num_k hs.tl.c1, num_k hs.tl.c2, num_k hs.tl.tl.c1, num_k hs.tl.tl.c2, sc_get0, sc_get1, sc_get2, sc_get3, sc_set1, sc_set2, passK_shut CxP101, passK_shut CxP35, cut62_k hs.hd, cut62_k hs.tl.hd, cut62_k hs.tl.tl.hd, QK.use ek]
    refine join2 ?_ ?_ ?_ ?_ ?_
    rotate_left
    · first | exact hs | exact hs.tl | exact hs.tl.tl | exact hs.tl.tl.tl
    · exact ⟨_, _, _, _, _, _, _, _, _, _, _, ⟨by first | exact numF_rng _ | assumption | omega, by first | exact numF_rng _ | assumption | omega, by first | exact numF_rng _ | assumption | omega, by first | exact numF_rng _ | assumption | omega, by first | exact numF_rng _ | assumption | omega, by first | exact numF_rng _ | assumption | omega, by first | exact numF_rng _ | assumption | omega, by first | exact numF_rng _ | assumption | omega, by first | exact numF_rng _ | assumption | omega, by first | exact numF_rng _ | assumption | omega⟩, rfl⟩
    · first | exact hs | exact hs.tl | exact hs.tl.tl | exact hs.tl.tl.tl
    · exact ⟨_, _, _, _, _, _, _, _, _, _, _, ⟨by first | exact numF_rng _ | assumption | omega, by first | exact numF_rng _ | assumption | omega, by first | exact numF_rng _ | assumption | omega, by first | exact numF_rng _ | assumption | omega, by first | exact numF_rng _ | assumption | omega, by first | exact numF_rng _ | assumption | omega, by first | exact numF_rng _ | assumption | omega, by first | exact numF_rng _ | assumption | omega, by first | exact numF_rng _ | assumption | omega, by first | exact numF_rng _ | assumption | omega⟩, rfl⟩
    clear hs
    intro ws m ok hs hm
    obtain ⟨k, f, t, l, a, c, b, d0, d1, d2, d3, ⟨h1, h2, h3, h4, h5, h6, h7, h8, h9, h10⟩, rfl⟩ := hm
    simp only [skip_k]
    generalize skB _ _ = b1
    revert b1
    rw [Bool.forall_bool]
    simp (config := { maxSteps := 10000000 }) (disch := omega) only [go_sem, simprocAttr, next_k, num_k hs.hn, num_k hs.tl.hn, num_k hs.tl.tl.hn, num_k hs.tl.tl.tl.hn, num_k hs.tl.tl.tl.tl.hn, num_k hs.tl.tl.tl.tl.tl.hn, num_k hs.c1, num_k hs.c2, num_k hs.tl.c1, num_k hs.tl.c2, num_k hs.tl.tl.c1, num_k hs.tl.tl.c2, sc_get0, sc_get1, sc_get2, sc_get3, sc_set1, sc_set2, passK_shut CxP101, passK_shut CxP35, cut62_k hs.hd, cut62_k hs.tl.hd, cut62_k hs.tl.tl.hd, msgA]
    refine join2 ?_ ?_ ?_ ?_ ?_
    rotate_left
    · first | exact hs | exact hs.tl | exact hs.tl.tl | exact hs.tl.tl.tl
    · exact ⟨_, _, _, _, _, _, _, _, _, _, _, ⟨by first | exact numF_rng _ | assumption | omega, by first | exact numF_rng _ | assumption | omega, by first | exact numF_rng _ | assumption | omega, by first | exact numF_rng _ | assumption | omega, by first | exact numF_rng _ | assumption | omega, by first | exact numF_rng _ | assumption | omega, by first | exact numF_rng _ | assumption | omega, by first | exact numF_rng _ | assumption | omega, by first | exact numF_rng _ | assumption | omega, by first | exact numF_rng _ | assumption | omega⟩, rfl⟩
    · first | exact hs | exact hs.tl | exact hs.tl.tl | exact hs.tl.tl.tl
    · exact ⟨_, _, _, _, _, _, _, _, _, _, _, ⟨by first | exact numF_rng _ | assumption | omega, by first | exact numF_rng _ | assumption | omega, by first | exact numF_rng _ | assumption | omega, by first | exact numF_rng _ | assumption | omega, by first | exact numF_rng _ | assumption | omega, by first | exact numF_rng _ | assumption | omega, by first | exact numF_rng _ | assumption | omega, by first | exact numF_rng _ | assumption | omega, by first | exact numF_rng _ | assumption | omega, by first | exact numF_rng _ | assumption | omega⟩, rfl⟩
    clear hs
    intro ws m ok hs hm
    obtain ⟨k, f, t, l, a, c, b, d0, d1, d2, d3, ⟨h1, h2, h3, h4, h5, h6, h7, h8, h9, h10⟩, rfl⟩ := hm
    simp only [skip_k]
    generalize skB _ _ = b1
    revert b1
    rw [Bool.forall_bool]
    simp (config := { maxSteps := 10000000 }) (disch := omega) only [go_sem, simprocAttr, next_k, num_k hs.hn, num_k hs.tl.hn, num_k hs.tl.tl.hn, num_k hs.tl.tl.tl.hn, num_k hs.tl.tl.tl.tl.hn, num_k hs.tl.tl.tl.tl.tl.hn, num_k hs.c1, num_k hs.c2, num_k hs.tl.c1, num_k hs.tl.c2, num_k hs.tl.tl.c1, num_k hs.tl.tl.c2, sc_get0, sc_get1, sc_get2, sc_get3, sc_set1, sc_set2, passK_shut CxP101, passK_shut CxP35, cut62_k hs.hd, cut62_k hs.tl.hd, cut62_k hs.tl.tl.hd, msgA]
    refine join2 ?_ ?_ ?_ ?_ ?_
    rotate_left
    · first | exact hs | exact hs.tl | exact hs.tl.tl | exact hs.tl.tl.tl
    · exact ⟨_, _, _, _, _, _, _, _, _, _, _, ⟨by first | exact numF_rng _ | assumption | omega, by first | exact numF_rng _ | assumption | omega, by first | exact numF_rng _ | assumption | omega, by first | exact numF_rng _ | assumption | omega, by first | exact numF_rng _ | assumption | omega, by first | exact numF_rng _ | assumption | omega, by first | exact numF_rng _ | assumption | omega, by first | exact numF_rng _ | assumption | omega, by first | exact numF_rng _ | assumption | omega, by first | exact numF_rng _ | assumption | omega⟩, rfl⟩
    · first | exact hs | exact hs.tl | exact hs.tl.tl | exact hs.tl.tl.tl
    · exact ⟨_, _, _, _, _, _, _, _, _, _, _, ⟨by first | exact numF_rng _ | assumption | omega, by first | exact numF_rng _ | assumption | omega, by first | exact numF_rng _ | assumption | omega, by first | exact numF_rng _ | assumption | omega, by first | exact numF_rng _ | assumption | omega, by first | exact numF_rng _ | assumption | omega, by first | exact numF_rng _ | assumption | omega, by first | exact numF_rng _ | assumption | omega, by first | exact numF_rng _ | assumption | omega, by first | exact numF_rng _ | assumption | omega⟩, rfl⟩
    clear hs
    intro ws m ok hs hm
    obtain ⟨k, f, t, l, a, c, b, d0, d1, d2, d3, ⟨h1, h2, h3, h4, h5, h6, h7, h8, h9, h10⟩, rfl⟩ := hm
    simp only [skip_k]
    generalize skB _ _ = b1
    revert b1
    rw [Bool.forall_bool]
    simp (config := { maxSteps := 10000000 }) (disch := omega) only [go_sem, simprocAttr, next_k, num_k hs.hn, num_k hs.tl.hn, num_k hs.tl.tl.hn, num_k hs.tl.tl.tl.hn, num_k hs.tl.tl.tl.tl.hn, num_k hs.tl.tl.tl.tl.tl.hn, num_k hs.c1, num_k hs.c2, num_k hs.tl.c1, num_k hs.tl.c2, num_k hs.tl.tl.c1, num_k hs.tl.tl.c2, sc_get0, sc_get1, sc_get2, sc_get3, sc_set1, sc_set2, passK_shut CxP101, passK_shut CxP35, cut62_k hs.hd, cut62_k hs.tl.hd, cut62_k hs.tl.tl.hd, msgA]
    refine join2 ?_ ?_ ?_ ?_ ?_
    rotate_left
    · first | exact hs | exact hs.tl | exact hs.tl.tl | exact hs.tl.tl.tl
    · exact ⟨_, _, _, _, _, _, _, _, _, _, _, ⟨by first | exact numF_rng _ | assumption | omega, by first | exact numF_rng _ | assumption | omega, by first | exact numF_rng _ | assumption | omega, by first | exact numF_rng _ | assumption | omega, by first | exact numF_rng _ | assumption | omega, by first | exact numF_rng _ | assumption | omega, by first | exact numF_rng _ | assumption | omega, by first | exact numF_rng _ | assumption | omega, by first | exact numF_rng _ | assumption | omega, by first | exact numF_rng _ | assumption | omega⟩, rfl⟩
    · first | exact hs | exact hs.tl | exact hs.tl.tl | exact hs.tl.tl.tl
    · exact ⟨_, _, _, _, _, _, _, _, _, _, _, ⟨by first | exact numF_rng _ | assumption | omega, by first | exact numF_rng _ | assumption | omega, by first | exact numF_rng _ | assumption | omega, by first | exact numF_rng _ | assumption | omega, by first | exact numF_rng _ | assumption | omega, by first | exact numF_rng _ | assumption | omega, by first | exact numF_rng _ | assumption | omega, by first | exact numF_rng _ | assumption | omega, by first | exact numF_rng _ | assumption | omega, by first | exact numF_rng _ | assumption | omega⟩, rfl⟩
    clear hs
    intro ws m ok hs hm
    obtain ⟨k, f, t, l, a, c, b, d0, d1, d2, d3, ⟨h1, h2, h3, h4, h5, h6, h7, h8, h9, h10⟩, rfl⟩ := hm
    simp only [skip_k]
    generalize skB _ _ = b1
    revert b1
    rw [Bool.forall_bool]
    simp (config := { maxSteps := 10000000 }) (disch := omega) only [go_sem, simprocAttr, next_k, num_k hs.hn, num_k hs.tl.hn, num_k hs.tl.tl.hn, num_k hs.tl.tl.tl.hn, num_k hs.tl.tl.tl.tl.hn, num_k hs.tl.tl.tl.tl.tl.hn, num_k hs.c1, num_k hs.c2, num_k hs.tl.c1, num_k hs.tl.c2, num_k hs.tl.tl.c1, num_k hs.tl.tl.c2, sc_get0, sc_get1, sc_get2, sc_get3, sc_set1, sc_set2, passK_shut CxP101, passK_shut CxP35, cut62_k hs.hd, cut62_k hs.tl.hd, cut62_k hs.tl.tl.hd, msgA]
    refine join2 ?_ ?_ ?_ ?_ ?_
    rotate_left
    · first | exact hs | exact hs.tl | exact hs.tl.tl | exact hs.tl.tl.tl
    · exact ⟨_, _, _, _, _, _, _, _, _, _, _, ⟨by first | exact numF_rng _ | assumption | omega, by first | exact numF_rng _ | assumption | omega, by first | exact numF_rng _ | assumption | omega, by first | exact numF_rng _ | assumption | omega, by first | exact numF_rng _ | assumption | omega, by first | exact numF_rng _ | assumption | omega, by first | exact numF_rng _ | assumption | omega, by first | exact numF_rng _ | assumption | omega, by first | exact numF_rng _ | assumption | omega, by first | exact numF_rng _ | assumption | omega⟩, rfl⟩
    · first | exact hs | exact hs.tl | exact hs.tl.tl | exact hs.tl.tl.tl
    · exact ⟨_, _, _, _, _, _, _, _, _, _, _, ⟨by first | exact numF_rng _ | assumption | omega, by first | exact numF_rng _ | assumption | omega, by first | exact numF_rng _ | assumption | omega, by first | exact numF_rng _ | assumption | omega, by first | exact numF_rng _ | assumption | omega, by first | exact numF_rng _ | assumption | omega, by first | exact numF_rng _ | assumption | omega, by first | exact numF_rng _ | assumption | omega, by first | exact numF_rng _ | assumption | omega, by first | exact numF_rng _ | assumption | omega⟩, rfl⟩
    clear hs
    intro ws m ok hs hm
    obtain ⟨k, f, t, l, a, c, b, d0, d1, d2, d3, ⟨h1, h2, h3, h4, h5, h6, h7, h8, h9, h10⟩, rfl⟩ := hm
    simp only [skip_k]
    generalize skB _ _ = b1
    revert b1
    rw [Bool.forall_bool]
    simp (config := { maxSteps := 10000000 }) (disch := omega) only [go_sem, simprocAttr, next_k, num_k hs.hn, num_k hs.tl.hn, num_k hs.tl.tl.hn, num_k hs.tl.tl.tl.hn, num_k hs.tl.tl.tl.tl.hn, num_k hs.tl.tl.tl.tl.tl.hn, num_k hs.c1, num_k hs.c2, num_k hs.tl.c1, num_k hs.tl.c2, num_k hs.tl.tl.c1, num_k hs.tl.tl.c2, sc_get0, sc_get1, sc_get2, sc_get3, sc_set1, sc_set2, passK_shut CxP101, passK_shut CxP35, cut62_k hs.hd, cut62_k hs.tl.hd, cut62_k hs.tl.tl.hd, msgA]
    refine ⟨?_, ?_⟩
    · cases ok <;> simp (config := { maxSteps := 10000000 }) (disch := omega) only [go_sem, simprocAttr, next_k, num_k hs.hn, num_k hs.tl.hn, num_k hs.tl.tl.hn, num_k hs.tl.tl.tl.hn, num_k hs.tl.tl.tl.tl.hn, num_k hs.tl.tl.tl.tl.tl.hn, num_k hs.c1, num_k hs.c2, num_k hs.tl.c1, num_k hs.tl.c2, num_k hs.tl.tl.c1, num_k hs.tl.tl.c2, sc_get0, sc_get1, sc_get2, sc_get3, sc_set1, sc_set2, passK_shut CxP101, passK_shut CxP35, cut62_k hs.hd, cut62_k hs.tl.hd, cut62_k hs.tl.tl.hd, eqL_sv, true_and]
      · exact ⟨_, rfl, ⟨_, _, _, _, _, _, _, _, _, _, _, _, ⟨by first | exact numF_rng _ | assumption | omega, by first | exact numF_rng _ | assumption | omega, by first | exact numF_rng _ | assumption | omega, by first | exact numF_rng _ | assumption | omega, by first | exact numF_rng _ | assumption | omega, by first | exact numF_rng _ | assumption | omega, by first | exact numF_rng _ | assumption | omega, by first | exact numF_rng _ | assumption | omega, by first | exact numF_rng _ | assumption | omega, by first | exact numF_rng _ | assumption | omega⟩, rfl⟩⟩
      · exact ⟨_, rfl, ⟨_, _, _, _, _, _, _, _, _, _, _, _, ⟨by first | exact numF_rng _ | assumption | omega, by first | exact numF_rng _ | assumption | omega, by first | exact numF_rng _ | assumption | omega, by first | exact numF_rng _ | assumption | omega, by first | exact numF_rng _ | assumption | omega, by first | exact numF_rng _ | assumption | omega, by first | exact numF_rng _ | assumption | omega, by first | exact numF_rng _ | assumption | omega, by first | exact numF_rng _ | assumption | omega, by first | exact numF_rng _ | assumption | omega⟩, rfl⟩⟩
    · iterate 5 (simp only [runK_loop]; simp (config := { maxSteps := 10000000 }) (disch := omega) only [go_sem, simprocAttr, next_k, num_k hs.hn, num_k hs.tl.hn, num_k hs.tl.tl.hn, num_k hs.tl.tl.tl.hn, num_k hs.tl.tl.tl.tl.hn, num_k hs.tl.tl.tl.tl.tl.hn, num_k hs.c1, num_k hs.c2, num_k hs.tl.c1, num_k hs.tl.c2, num_k hs.tl.tl.c1, num_k hs.tl.tl.c2, sc_get0, sc_get1, sc_get2, sc_get3, sc_set1, sc_set2, passK_shut CxP101, passK_shut CxP35, cut62_k hs.hd, cut62_k hs.tl.hd, cut62_k hs.tl.tl.hd])
      generalize (_ && _ : Bool) = o
      cases o <;> simp (config := { maxSteps := 10000000 }) (disch := omega) only [go_sem, simprocAttr, next_k, num_k hs.hn, num_k hs.tl.hn, num_k hs.tl.tl.hn, num_k hs.tl.tl.tl.hn, num_k hs.tl.tl.tl.tl.hn, num_k hs.tl.tl.tl.tl.tl.hn, num_k hs.c1, num_k hs.c2, num_k hs.tl.c1, num_k hs.tl.c2, num_k hs.tl.tl.c1, num_k hs.tl.tl.c2, sc_get0, sc_get1, sc_get2, sc_get3, sc_set1, sc_set2, passK_shut CxP101, passK_shut CxP35, cut62_k hs.hd, cut62_k hs.tl.hd, cut62_k hs.tl.tl.hd, eqL_sv, true_and]
      · exact ⟨_, rfl, ⟨_, _, _, _, _, _, _, _, _, _, _, _, ⟨by first | exact numF_rng _ | assumption | omega, by first | exact numF_rng _ | assumption | omega, by first | exact numF_rng _ | assumption | omega, by first | exact numF_rng _ | assumption | omega, by first | exact numF_rng _ | assumption | omega, by first | exact numF_rng _ | assumption | omega, by first | exact numF_rng _ | assumption | omega, by first | exact numF_rng _ | assumption | omega, by first | exact numF_rng _ | assumption | omega, by first | exact numF_rng _ | assumption | omega⟩, rfl⟩⟩
      · exact ⟨_, rfl, ⟨_, _, _, _, _, _, _, _, _, _, _, _, ⟨by first | exact numF_rng _ | assumption | omega, by first | exact numF_rng _ | assumption | omega, by first | exact numF_rng _ | assumption | omega, by first | exact numF_rng _ | assumption | omega, by first | exact numF_rng _ | assumption | omega, by first | exact numF_rng _ | assumption | omega, by first | exact numF_rng _ | assumption | omega, by first | exact numF_rng _ | assumption | omega, by first | exact numF_rng _ | assumption | omega, by first | exact numF_rng _ | assumption | omega⟩, rfl⟩⟩
  obtain ⟨r0, h1, h2⟩ := ex
  exact ⟨r0, evQ_of CxB63 rfl (by simp [fn63]) h1, h2⟩
end Go.Proofs.YtijpomemobgddaaGreatDoor.Ev
