/- The evaluator's operations on live blocks are the model's: a new block; a block written. -/
import Derived.Test.YtijpomemobgddaaGreatDoorE10
import Derived.Laws.MakeOwn
import Derived.RangeFuncRecord
set_option linter.unusedSimpArgs false
set_option linter.unusedVariables false
namespace Go.Proofs.YtijpomemobgddaaGreatDoor.Ev
open Go Go.RowKit
variable {Gd : GD}
variable {P : Program} {T : Tb}

/-- A new block. -/
theorem newBlk {c : Cfg} (ok : Ok Gd c) {e : TypeId} {cs : List A} {wh : Bool} {cur : Array Value} {xs : List Value} {w' : World} (hw : w' = c.w.alloc (.cells cur e) ∨ w' = c.w.drew.alloc (.cells cur e)) (hr : RL c.ρ c.own c.w cs xs) (hp : xs <+: cur.toList) (hwh : wh = true → cur.size = cs.length) :
    ∃ c', c'.H = c.H ++ [some ⟨e, cs, wh⟩] ∧ c'.w = w' ∧ To c c' ∧ Ok Gd c' ∧ c'.ρ[c.H.length]? = some c.w.heap.size ∧ c'.w.heap[c.w.heap.size]? = some (.cells cur e) := by
  have hheap : w'.heap = c.w.heap.push (.cells cur e) := by rcases hw with rfl | rfl <;> rfl
  have hold : ∀ g, g < c.w.heap.size → w'.heap[g]? = c.w.heap[g]? := fun g hg => by
    rw [hheap, Array.getElem?_push]
    simp [Nat.ne_of_lt hg]
  have hnew : w'.heap[c.w.heap.size]? = some (.cells cur e) := by rw [hheap]; simp
  let c' : Cfg := ⟨c.ρ ++ [c.w.heap.size], fun g => c.own g ∨ g = c.w.heap.size, c.H ++ [some ⟨e, cs, wh⟩], w'⟩
  have hlen := ok.len
  have live : ∀ (b : Nat) (k : Blk) (g : Nat), c'.H[b]? = some (some k) → c'.ρ[b]? = some g → (c.H[b]? = some (some k) ∧ c.ρ[b]? = some g) ∨ (b = c.H.length ∧ k = ⟨e, cs, wh⟩ ∧ g = c.w.heap.size) := by
    intro b k g hb hg
    rcases Nat.lt_or_ge b c.H.length with hlt | hge
    · left
      exact ⟨by simpa [c', List.getElem?_append_left hlt] using hb, by simpa [c', List.getElem?_append_left (by omega : b < c.ρ.length)] using hg⟩
    · right
      have hb' : b = c.H.length := by
        have := (List.getElem?_eq_some_iff.1 hb).1
        simp [c'] at this
        omega
      subst hb'
      refine ⟨rfl, ?_, ?_⟩
      · simpa [c', eq_comm] using hb
      · simp only [c'] at hg
        rw [← hlen, List.getElem?_append_right (Nat.le_refl _)] at hg
        simpa [eq_comm] using hg
  have hto : To c c' := by
    refine ⟨List.prefix_append _ _, by simp [c', hheap], by rcases hw with rfl | rfl <;> rfl, by rcases hw with rfl | rfl <;> rfl, by rcases hw with rfl | rfl <;> rfl, ?_, fun g hg _ => hold g hg, fun g cur1 e1 fz1 h1 => ⟨cur1, fz1, ?_, rfl⟩, fun g es n h1 => ⟨es, n, (hold g (Array.getElem?_eq_some_iff.1 h1).1).trans h1⟩, fun g o h1 _ => ⟨o, (hold g (Array.getElem?_eq_some_iff.1 h1).1).trans h1, rfl⟩, ?_⟩
    · rintro g hg ⟨b, k, hb, hbg⟩
      rcases live b k g hb hbg with ⟨h1, h2⟩ | ⟨-, -, h3⟩
      · exact ⟨b, k, h1, h2⟩
      · omega
    · have hg := (Array.getElem?_eq_some_iff.1 h1).1
      exact (hold g hg).trans h1
    · intro g hg
      simp only [c']
      constructor
      · rintro (h | h)
        · exact h
        · omega
      · exact .inl
  refine ⟨c', rfl, rfl, hto, ?_, ?_, hnew⟩
  · refine ⟨by simp [c', hlen], ?_, ?_, ?_, ?_, hto.glob ok⟩
    · rintro g (h | h)
      · have := ok.lt g h
        simp [c', hheap]
        omega
      · simp [c', hheap, h]
    · rintro g ⟨b, k, hb, hbg⟩
      rcases live b k g hb hbg with ⟨h1, h2⟩ | ⟨-, -, h3⟩
      · exact .inl (ok.img g ⟨b, k, h1, h2⟩)
      · exact .inr h3
    · intro b e1 cs1 wh1 g hb hg
      rcases live b _ g hb hg with ⟨h1, h2⟩ | ⟨-, h2, h3⟩
      · exact (ok.blk b e1 cs1 wh1 g h1 h2).keep (hto.keeps ok) (hold g (ok.lt g (ok.img g ⟨b, _, h1, h2⟩)))
      · simp only [Blk.mk.injEq] at h2
        obtain ⟨rfl, rfl, rfl⟩ := h2
        subst h3
        exact .inl ⟨cur, xs, hnew, hr.to hto ok, hp, hwh⟩
    · intro b b' k k' g hb hb' hg hg'
      rcases live b k g hb hg with ⟨h1, h2⟩ | ⟨h1, -, h3⟩ <;> rcases live b' k' g hb' hg' with ⟨h4, h5⟩ | ⟨h4, -, h6⟩
      · exact ok.inj b b' k k' g h1 h4 h2 h5
      · have := ok.lt g (ok.img g ⟨b, k, h1, h2⟩)
        omega
      · have := ok.lt g (ok.img g ⟨b', k', h4, h5⟩)
        omega
      · omega
  · simp only [c']
    rw [← hlen]
    simp

/-- A new map. -/
theorem newMap {c : Cfg} (ok : Ok Gd c) {e : TypeId} {cs : List A} {wh : Bool} {es : Array MapEntry} {n : Nat} {w' : World} (hw : w' = c.w.alloc (.map es n) ∨ w' = c.w.drew.alloc (.map es n)) (hr : RL c.ρ c.own c.w cs (flatE es.toList)) (hbn : Born es n) :
    ∃ c', c'.H = c.H ++ [some ⟨e, cs, wh⟩] ∧ c'.w = w' ∧ To c c' ∧ Ok Gd c' ∧ c'.ρ[c.H.length]? = some c.w.heap.size ∧ c'.w.heap[c.w.heap.size]? = some (.map es n) := by
  have hheap : w'.heap = c.w.heap.push (.map es n) := by rcases hw with rfl | rfl <;> rfl
  have hold : ∀ g, g < c.w.heap.size → w'.heap[g]? = c.w.heap[g]? := fun g hg => by
    rw [hheap, Array.getElem?_push]
    simp [Nat.ne_of_lt hg]
  have hnew : w'.heap[c.w.heap.size]? = some (.map es n) := by rw [hheap]; simp
  let c' : Cfg := ⟨c.ρ ++ [c.w.heap.size], fun g => c.own g ∨ g = c.w.heap.size, c.H ++ [some ⟨e, cs, wh⟩], w'⟩
  have hlen := ok.len
  have live : ∀ (b : Nat) (k : Blk) (g : Nat), c'.H[b]? = some (some k) → c'.ρ[b]? = some g → (c.H[b]? = some (some k) ∧ c.ρ[b]? = some g) ∨ (b = c.H.length ∧ k = ⟨e, cs, wh⟩ ∧ g = c.w.heap.size) := by
    intro b k g hb hg
    rcases Nat.lt_or_ge b c.H.length with hlt | hge
    · left
      exact ⟨by simpa [c', List.getElem?_append_left hlt] using hb, by simpa [c', List.getElem?_append_left (by omega : b < c.ρ.length)] using hg⟩
    · right
      have hb' : b = c.H.length := by
        have := (List.getElem?_eq_some_iff.1 hb).1
        simp [c'] at this
        omega
      subst hb'
      refine ⟨rfl, ?_, ?_⟩
      · simpa [c', eq_comm] using hb
      · simp only [c'] at hg
        rw [← hlen, List.getElem?_append_right (Nat.le_refl _)] at hg
        simpa [eq_comm] using hg
  have hto : To c c' := by
    refine ⟨List.prefix_append _ _, by simp [c', hheap], by rcases hw with rfl | rfl <;> rfl, by rcases hw with rfl | rfl <;> rfl, by rcases hw with rfl | rfl <;> rfl, ?_, fun g hg _ => hold g hg, fun g cur1 e1 fz1 h1 => ⟨cur1, fz1, ?_, rfl⟩, fun g es1 n1 h1 => ⟨es1, n1, (hold g (Array.getElem?_eq_some_iff.1 h1).1).trans h1⟩, fun g o h1 _ => ⟨o, (hold g (Array.getElem?_eq_some_iff.1 h1).1).trans h1, rfl⟩, ?_⟩
    · rintro g hg ⟨b, k, hb, hbg⟩
      rcases live b k g hb hbg with ⟨h1, h2⟩ | ⟨-, -, h3⟩
      · exact ⟨b, k, h1, h2⟩
      · omega
    · have hg := (Array.getElem?_eq_some_iff.1 h1).1
      exact (hold g hg).trans h1
    · intro g hg
      simp only [c']
      constructor
      · rintro (h | h)
        · exact h
        · omega
      · exact .inl
  refine ⟨c', rfl, rfl, hto, ?_, ?_, hnew⟩
  · refine ⟨by simp [c', hlen], ?_, ?_, ?_, ?_, hto.glob ok⟩
    · rintro g (h | h)
      · have := ok.lt g h
        simp [c', hheap]
        omega
      · simp [c', hheap, h]
    · rintro g ⟨b, k, hb, hbg⟩
      rcases live b k g hb hbg with ⟨h1, h2⟩ | ⟨-, -, h3⟩
      · exact .inl (ok.img g ⟨b, k, h1, h2⟩)
      · exact .inr h3
    · intro b e1 cs1 wh1 g hb hg
      rcases live b _ g hb hg with ⟨h1, h2⟩ | ⟨-, h2, h3⟩
      · exact (ok.blk b e1 cs1 wh1 g h1 h2).keep (hto.keeps ok) (hold g (ok.lt g (ok.img g ⟨b, _, h1, h2⟩)))
      · simp only [Blk.mk.injEq] at h2
        obtain ⟨rfl, rfl, rfl⟩ := h2
        subst h3
        exact .inr (.inl ⟨es, n, hnew, hr.to hto ok, hbn⟩)
    · intro b b' k k' g hb hb' hg hg'
      rcases live b k g hb hg with ⟨h1, h2⟩ | ⟨h1, -, h3⟩ <;> rcases live b' k' g hb' hg' with ⟨h4, h5⟩ | ⟨h4, -, h6⟩
      · exact ok.inj b b' k k' g h1 h4 h2 h5
      · have := ok.lt g (ok.img g ⟨b, k, h1, h2⟩)
        omega
      · have := ok.lt g (ok.img g ⟨b', k', h4, h5⟩)
        omega
      · omega
  · simp only [c']
    rw [← hlen]
    simp

/-- A block written. -/
theorem setBlk {c : Cfg} (ok : Ok Gd c) {b g : Nat} {k : Blk} {cs' : List A} {cur cur' : Array Value} {xs' : List Value} (hb : c.H[b]? = some (some k)) (hg : c.ρ[b]? = some g) (hcur : c.w.heap[g]? = some (.cells cur k.e (0, 0)))
    (hr : RL c.ρ c.own c.w cs' xs') (hp : xs' <+: cur'.toList) (hs : cur'.size = cur.size) (hwh : k.whole = true → cur'.size = cs'.length) :
    ∃ c', c'.H = c.H.set b (some ⟨k.e, cs', k.whole⟩) ∧ c'.w = c.w.setRow g cur' ∧ To c c' ∧ Ok Gd c' ∧ c'.ρ = c.ρ := by
  let c' : Cfg := ⟨c.ρ, c.own, c.H.set b (some ⟨k.e, cs', k.whole⟩), c.w.setRow g cur'⟩
  have hbl := (List.getElem?_eq_some_iff.1 hb).1
  have live : ∀ (b1 : Nat) (k1 : Blk) (g1 : Nat), c'.H[b1]? = some (some k1) → c'.ρ[b1]? = some g1 → (b1 ≠ b ∧ c.H[b1]? = some (some k1) ∧ c.ρ[b1]? = some g1) ∨ (b1 = b ∧ k1 = ⟨k.e, cs', k.whole⟩ ∧ g1 = g) := by
    intro b1 k1 g1 h1 h2
    by_cases hbb : b1 = b
    · subst hbb
      right
      have h3 : c.ρ[b1]? = some g1 := h2
      rw [hg] at h3
      simp only [c', List.getElem?_set_self hbl, Option.some.injEq] at h1
      exact ⟨rfl, h1.symm, (Option.some.inj h3).symm⟩
    · left
      refine ⟨hbb, ?_, h2⟩
      simpa [c', List.getElem?_set_ne (Ne.symm hbb)] using h1
  have himg : img c.ρ c.H g := ⟨b, k, hb, hg⟩
  have hto : To c c' := by
    refine ⟨List.prefix_rfl, by simp [c'], rfl, rfl, rfl, ?_, ?_, ?_, fun g1 es n h1 => ⟨es, n, (setRow_other c.w g g1 cur' (by rintro rfl; rw [hcur] at h1; cases h1)).trans h1⟩, fun g1 o h1 h0 => ⟨o, (setRow_other c.w g g1 cur' (by rintro rfl; rw [hcur] at h1; cases h1; exact h0 rfl)).trans h1, rfl⟩, fun _ _ => Iff.rfl⟩
    · rintro g1 hg1 ⟨b1, k1, h1, h2⟩
      rcases live b1 k1 g1 h1 h2 with ⟨-, h3, h4⟩ | ⟨-, -, h3⟩
      · exact ⟨b1, k1, h3, h4⟩
      · rw [h3]; exact himg
    · intro g1 hg1 hn
      exact setRow_other c.w g g1 cur' fun h => hn (h ▸ himg)
    · intro g1 cur1 e1 fz1 h1
      by_cases hgg : g1 = g
      · subst hgg
        rw [hcur] at h1
        simp only [Option.some.injEq, Obj.cells.injEq] at h1
        obtain ⟨rfl, rfl, -⟩ := h1
        exact ⟨cur', (0, 0), setRow_heap c.w g1 cur cur' k.e (0, 0) hcur, hs⟩
      · exact ⟨cur1, fz1, (setRow_other c.w g g1 cur' hgg).trans h1, rfl⟩
  refine ⟨c', rfl, rfl, hto, ?_, rfl⟩
  refine ⟨by simp [c', ok.len], fun g1 h1 => by simpa [c'] using ok.lt g1 h1, ?_, ?_, ?_, hto.glob ok⟩
  · rintro g1 ⟨b1, k1, h1, h2⟩
    rcases live b1 k1 g1 h1 h2 with ⟨-, h3, h4⟩ | ⟨-, -, h3⟩
    · exact ok.img g1 ⟨b1, k1, h3, h4⟩
    · rw [h3]; exact ok.img g himg
  · intro b1 e1 cs1 wh1 g1 h1 h2
    rcases live b1 _ g1 h1 h2 with ⟨hne, h3, h4⟩ | ⟨-, h3, h4⟩
    · have hgg : g1 ≠ g := fun h => hne (ok.inj b1 b _ k g1 h3 hb h4 (h ▸ hg))
      exact (ok.blk b1 e1 cs1 wh1 g1 h3 h4).keep (hto.keeps ok) (setRow_other c.w g g1 cur' hgg)
    · simp only [Blk.mk.injEq] at h3
      obtain ⟨rfl, rfl, rfl⟩ := h3
      subst h4
      exact .inl ⟨cur', xs', setRow_heap c.w g1 cur cur' k.e (0, 0) hcur, hr.to hto ok, hp, hwh⟩
  · intro b1 b2 k1 k2 g1 h1 h2 h3 h4
    rcases live b1 k1 g1 h1 h3 with ⟨hne, h5, h6⟩ | ⟨h5, -, h6⟩ <;> rcases live b2 k2 g1 h2 h4 with ⟨hne', h7, h8⟩ | ⟨h7, -, h8⟩
    · exact ok.inj b1 b2 k1 k2 g1 h5 h7 h6 h8
    · subst h8
      exact absurd (ok.inj b1 b k1 k g1 h5 hb h6 hg) hne
    · subst h6
      exact absurd (ok.inj b2 b k2 k g1 h7 hb h8 hg) hne'
    · omega

/-- A map written. -/
theorem setMap {c : Cfg} (ok : Ok Gd c) {b g : Nat} {k : Blk} {cs' : List A} {es es' : Array MapEntry} {n n' : Nat} (hb : c.H[b]? = some (some k)) (hg : c.ρ[b]? = some g) (hcur : c.w.heap[g]? = some (.map es n))
    (hr : RL c.ρ c.own c.w cs' (flatE es'.toList)) (hbn : Born es' n') :
    ∃ c', c'.H = c.H.set b (some ⟨k.e, cs', k.whole⟩) ∧ c'.w = { c.w with heap := c.w.heap.setIfInBounds g (.map es' n') } ∧ To c c' ∧ Ok Gd c' ∧ c'.ρ = c.ρ := by
  let c' : Cfg := ⟨c.ρ, c.own, c.H.set b (some ⟨k.e, cs', k.whole⟩), { c.w with heap := c.w.heap.setIfInBounds g (.map es' n') }⟩
  have hbl := (List.getElem?_eq_some_iff.1 hb).1
  have live : ∀ (b1 : Nat) (k1 : Blk) (g1 : Nat), c'.H[b1]? = some (some k1) → c'.ρ[b1]? = some g1 → (b1 ≠ b ∧ c.H[b1]? = some (some k1) ∧ c.ρ[b1]? = some g1) ∨ (b1 = b ∧ k1 = ⟨k.e, cs', k.whole⟩ ∧ g1 = g) := by
    intro b1 k1 g1 h1 h2
    by_cases hbb : b1 = b
    · subst hbb
      right
      have h3 : c.ρ[b1]? = some g1 := h2
      rw [hg] at h3
      simp only [c', List.getElem?_set_self hbl, Option.some.injEq] at h1
      exact ⟨rfl, h1.symm, (Option.some.inj h3).symm⟩
    · left
      refine ⟨hbb, ?_, h2⟩
      simpa [c', List.getElem?_set_ne (Ne.symm hbb)] using h1
  have himg : img c.ρ c.H g := ⟨b, k, hb, hg⟩
  have hother : ∀ g1, g1 ≠ g → (c.w.heap.setIfInBounds g (.map es' n'))[g1]? = c.w.heap[g1]? := fun g1 hg1 => Array.getElem?_setIfInBounds_ne (Ne.symm hg1)
  have hself : (c.w.heap.setIfInBounds g (.map es' n'))[g]? = some (.map es' n') := Array.getElem?_setIfInBounds_self_of_lt (Array.getElem?_eq_some_iff.1 hcur).1
  have hto : To c c' := by
    refine ⟨List.prefix_rfl, by simp [c'], rfl, rfl, rfl, ?_, ?_, fun g1 cur1 e1 fz1 h1 => ⟨cur1, fz1, (hother g1 (by rintro rfl; rw [hcur] at h1; cases h1)).trans h1, rfl⟩, ?_, fun g1 o h1 h0 => ⟨o, (hother g1 (by rintro rfl; rw [hcur] at h1; cases h1; exact h0 rfl)).trans h1, rfl⟩, fun _ _ => Iff.rfl⟩
    · rintro g1 hg1 ⟨b1, k1, h1, h2⟩
      rcases live b1 k1 g1 h1 h2 with ⟨-, h3, h4⟩ | ⟨-, -, h3⟩
      · exact ⟨b1, k1, h3, h4⟩
      · rw [h3]; exact himg
    · intro g1 hg1 hn
      exact hother g1 fun h => hn (h ▸ himg)
    · intro g1 es1 n1 h1
      by_cases hgg : g1 = g
      · subst hgg
        exact ⟨es', n', hself⟩
      · exact ⟨es1, n1, (hother g1 hgg).trans h1⟩
  refine ⟨c', rfl, rfl, hto, ?_, rfl⟩
  refine ⟨by simp [c', ok.len], fun g1 h1 => by simpa [c'] using ok.lt g1 h1, ?_, ?_, ?_, hto.glob ok⟩
  · rintro g1 ⟨b1, k1, h1, h2⟩
    rcases live b1 k1 g1 h1 h2 with ⟨-, h3, h4⟩ | ⟨-, -, h3⟩
    · exact ok.img g1 ⟨b1, k1, h3, h4⟩
    · rw [h3]; exact ok.img g himg
  · intro b1 e1 cs1 wh1 g1 h1 h2
    rcases live b1 _ g1 h1 h2 with ⟨hne, h3, h4⟩ | ⟨-, h3, h4⟩
    · have hgg : g1 ≠ g := fun h => hne (ok.inj b1 b _ k g1 h3 hb h4 (h ▸ hg))
      exact (ok.blk b1 e1 cs1 wh1 g1 h3 h4).keep (hto.keeps ok) (hother g1 hgg)
    · simp only [Blk.mk.injEq] at h3
      obtain ⟨rfl, rfl, rfl⟩ := h3
      subst h4
      exact .inr (.inl ⟨es', n', hself, hr.to hto ok, hbn⟩)
  · intro b1 b2 k1 k2 g1 h1 h2 h3 h4
    rcases live b1 k1 g1 h1 h3 with ⟨hne, h5, h6⟩ | ⟨h5, -, h6⟩ <;> rcases live b2 k2 g1 h2 h4 with ⟨hne', h7, h8⟩ | ⟨h7, -, h8⟩
    · exact ok.inj b1 b2 k1 k2 g1 h5 h7 h6 h8
    · subst h8
      exact absurd (ok.inj b1 b k1 k g1 h5 hb h6 hg) hne
    · subst h6
      exact absurd (ok.inj b2 b k2 k g1 h7 hb h8 hg) hne'
    · omega

/-- A block let go. -/
theorem dropBlk {c : Cfg} (ok : Ok Gd c) (b : Nat) : To c ⟨c.ρ, c.own, c.H.set b none, c.w⟩ ∧ Ok Gd ⟨c.ρ, c.own, c.H.set b none, c.w⟩ := by
  have live : ∀ (b1 : Nat) (k1 : Blk), (c.H.set b none)[b1]? = some (some k1) → c.H[b1]? = some (some k1) := by
    intro b1 k1 h1
    by_cases hbb : b1 = b
    · subst hbb
      rw [List.getElem?_set] at h1
      split at h1
      · split at h1
        · cases h1
        · cases h1
      · exact h1
    · simpa [List.getElem?_set_ne (Ne.symm hbb)] using h1
  have hto : To c ⟨c.ρ, c.own, c.H.set b none, c.w⟩ :=
    ⟨List.prefix_rfl, Nat.le_refl _, rfl, rfl, rfl, fun g _ ⟨b1, k1, h1, h2⟩ => ⟨b1, k1, live b1 k1 h1, h2⟩, fun _ _ _ => rfl, fun _ cur _ fz h => ⟨cur, fz, h, rfl⟩, fun _ es n h => ⟨es, n, h⟩, fun _ o h _ => ⟨o, h, rfl⟩, fun _ _ => Iff.rfl⟩
  refine ⟨hto, ⟨by simp [ok.len], ok.lt, fun g ⟨b1, k1, h1, h2⟩ => ok.img g ⟨b1, k1, live b1 k1 h1, h2⟩, fun b1 e1 cs1 wh1 g1 h1 h2 => ?_, fun b1 b2 k1 k2 g1 h1 h2 h3 h4 => ok.inj b1 b2 k1 k2 g1 (live b1 k1 h1) (live b2 k2 h2) h3 h4, hto.glob ok⟩⟩
  exact (ok.blk b1 e1 cs1 wh1 g1 (live b1 _ h1) h2).keep (hto.keeps ok) rfl

/-- A row let go, of which cells are frozen. -/
theorem freezeBlk {c : Cfg} (ok : Ok Gd c) {b g : Nat} {k : Blk} (hb : c.H[b]? = some (some k)) (hg : c.ρ[b]? = some g) {cur : Array Value} {e : TypeId} {fz : Nat × Nat} (hcur : c.w.heap[g]? = some (.cells cur e fz)) (off n : Nat) (hn : n ≠ 0) :
    To c ⟨c.ρ, c.own, c.H.set b none, c.w.freeze ⟨g, off, none⟩ n⟩ ∧ Ok Gd ⟨c.ρ, c.own, c.H.set b none, c.w.freeze ⟨g, off, none⟩ n⟩ := by
  obtain ⟨t1, o1⟩ := dropBlk ok b
  have hw : (c.w.freeze ⟨g, off, none⟩ n).heap = c.w.heap.modify g fun
      | .cells c elem (lo, hi) => .cells c elem (if lo == hi then (off, off + n) else (min lo off, max hi (off + n)))
      | o => o := by
    unfold World.freeze
    rw [if_neg hn]
    rfl
  have hf : (c.w.freeze ⟨g, off, none⟩ n).os = c.w.os ∧ (c.w.freeze ⟨g, off, none⟩ n).tape = c.w.tape ∧ (c.w.freeze ⟨g, off, none⟩ n).output = c.w.output := by
    unfold World.freeze
    rw [if_neg hn]
    exact ⟨rfl, rfl, rfl⟩
  have hsz : (c.w.freeze ⟨g, off, none⟩ n).heap.size = c.w.heap.size := by rw [hw]; simp
  have hother : ∀ g1, g1 ≠ g → (c.w.freeze ⟨g, off, none⟩ n).heap[g1]? = c.w.heap[g1]? := fun g1 h1 => by
    rw [hw, Array.getElem?_modify, if_neg (Ne.symm h1)]
  have hself : ∃ fz', (c.w.freeze ⟨g, off, none⟩ n).heap[g]? = some (.cells cur e fz') := by
    rw [hw, Array.getElem?_modify, if_pos rfl, hcur]
    exact ⟨_, rfl⟩
  obtain ⟨fz', hself⟩ := hself
  have himg : img c.ρ c.H g := ⟨b, k, hb, hg⟩
  have hto : To ⟨c.ρ, c.own, c.H, c.w⟩ ⟨c.ρ, c.own, c.H.set b none, c.w.freeze ⟨g, off, none⟩ n⟩ := by
    refine ⟨List.prefix_rfl, Nat.le_of_eq hsz.symm, hf.1, hf.2.1, hf.2.2, t1.img, ?_, ?_, ?_, ?_, fun _ _ => Iff.rfl⟩
    · intro g1 hg1 hn1
      exact hother g1 fun h => hn1 (h ▸ himg)
    · intro g1 cur1 e1 fz1 h1
      by_cases hgg : g1 = g
      · subst hgg
        have h1 : c.w.heap[g1]? = some (.cells cur1 e1 fz1) := h1
        rw [hcur] at h1
        simp only [Option.some.injEq, Obj.cells.injEq] at h1
        obtain ⟨rfl, rfl, -⟩ := h1
        exact ⟨cur, fz', hself, rfl⟩
      · exact ⟨cur1, fz1, (hother g1 hgg).trans h1, rfl⟩
    · intro g1 es n1 h1
      refine ⟨es, n1, (hother g1 ?_).trans h1⟩
      rintro rfl
      have h1 : c.w.heap[g1]? = some (.map es n1) := h1
      rw [hcur] at h1
      cases h1
    · intro g1 o h1 h0
      refine ⟨o, (hother g1 ?_).trans h1, rfl⟩
      rintro rfl
      have h1 : c.w.heap[g1]? = some o := h1
      rw [hcur] at h1
      cases h1
      exact h0 rfl
  refine ⟨hto, ⟨by simp [ok.len], fun g1 h1 => by rw [hsz]; exact ok.lt g1 h1, o1.img, fun b1 e1 cs1 wh1 g1 h1 h2 => ?_, o1.inj, hto.glob ok⟩⟩
  have hne : b1 ≠ b := by
    rintro rfl
    have hlt := (List.getElem?_eq_some_iff.1 hb).1
    rw [List.getElem?_set_self hlt] at h1
    cases h1
  have h3 : c.H[b1]? = some (some ⟨e1, cs1, wh1⟩) := by simpa [List.getElem?_set_ne (Ne.symm hne)] using h1
  exact (ok.blk b1 e1 cs1 wh1 g1 h3 h2).keep (hto.keeps ok) (hother g1 fun h => hne (ok.inj b1 b _ k g1 h3 hb h2 (h ▸ hg)))

/-- A live block that goes on under a new name: the last of its place is let go, what is known of it is cut or grown in its spare room. -/
theorem moveBlk {c : Cfg} (ok : Ok Gd c) {b g : Nat} {k : Blk} {cs' : List A} {cur cur' : Array Value} {xs' : List Value} (hb : c.H[b]? = some (some k)) (hg : c.ρ[b]? = some g) (hcur : c.w.heap[g]? = some (.cells cur k.e (0, 0)))
    (hr : RL c.ρ c.own c.w cs' xs') (hp : xs' <+: cur'.toList) (hs : cur'.size = cur.size) :
    ∃ c', c'.H = c.H.set b none ++ [some ⟨k.e, cs', false⟩] ∧ c'.w = c.w.setRow g cur' ∧ To c c' ∧ Ok Gd c' ∧ c'.ρ[c.H.length]? = some g := by
  let c' : Cfg := ⟨c.ρ ++ [g], c.own, c.H.set b none ++ [some ⟨k.e, cs', false⟩], c.w.setRow g cur'⟩
  have hlen := ok.len
  have live : ∀ (b1 : Nat) (k1 : Blk) (g1 : Nat), c'.H[b1]? = some (some k1) → c'.ρ[b1]? = some g1 → (b1 ≠ b ∧ b1 < c.H.length ∧ c.H[b1]? = some (some k1) ∧ c.ρ[b1]? = some g1) ∨ (b1 = c.H.length ∧ k1 = ⟨k.e, cs', false⟩ ∧ g1 = g) := by
    intro b1 k1 g1 h1 h2
    rcases Nat.lt_or_ge b1 c.H.length with hlt | hge
    · left
      have h1' : (c.H.set b none)[b1]? = some (some k1) := by simpa [c', List.getElem?_append_left (by simpa using hlt : b1 < (c.H.set b none).length)] using h1
      have hbb : b1 ≠ b := by
        rintro rfl
        simp [List.getElem?_set_self hlt] at h1'
      exact ⟨hbb, hlt, by simpa [List.getElem?_set_ne (Ne.symm hbb)] using h1', by simpa [c', List.getElem?_append_left (by omega : b1 < c.ρ.length)] using h2⟩
    · right
      have hb' : b1 = c.H.length := by
        have := (List.getElem?_eq_some_iff.1 h1).1
        simp [c'] at this
        omega
      subst hb'
      refine ⟨rfl, ?_, ?_⟩
      · simp only [c'] at h1
        rw [List.getElem?_append_right (by simp)] at h1
        simpa [eq_comm] using h1
      · simp only [c'] at h2
        rw [← hlen, List.getElem?_append_right (Nat.le_refl _)] at h2
        simpa [eq_comm] using h2
  have himg : img c.ρ c.H g := ⟨b, k, hb, hg⟩
  have hto : To c c' := by
    refine ⟨List.prefix_append _ _, by simp [c'], rfl, rfl, rfl, ?_, ?_, ?_, fun g1 es n h1 => ⟨es, n, (setRow_other c.w g g1 cur' (by rintro rfl; rw [hcur] at h1; cases h1)).trans h1⟩, fun g1 o h1 h0 => ⟨o, (setRow_other c.w g g1 cur' (by rintro rfl; rw [hcur] at h1; cases h1; exact h0 rfl)).trans h1, rfl⟩, fun _ _ => Iff.rfl⟩
    · rintro g1 hg1 ⟨b1, k1, h1, h2⟩
      rcases live b1 k1 g1 h1 h2 with ⟨-, -, h3, h4⟩ | ⟨-, -, h3⟩
      · exact ⟨b1, k1, h3, h4⟩
      · rw [h3]; exact himg
    · intro g1 hg1 hn
      exact setRow_other c.w g g1 cur' fun h => hn (h ▸ himg)
    · intro g1 cur1 e1 fz1 h1
      by_cases hgg : g1 = g
      · subst hgg
        rw [hcur] at h1
        simp only [Option.some.injEq, Obj.cells.injEq] at h1
        obtain ⟨rfl, rfl, -⟩ := h1
        exact ⟨cur', (0, 0), setRow_heap c.w g1 cur cur' k.e (0, 0) hcur, hs⟩
      · exact ⟨cur1, fz1, (setRow_other c.w g g1 cur' hgg).trans h1, rfl⟩
  refine ⟨c', rfl, rfl, hto, ?_, ?_⟩
  · refine ⟨by simp [c', ok.len], fun g1 h1 => by simpa [c'] using ok.lt g1 h1, ?_, ?_, ?_, hto.glob ok⟩
    · rintro g1 ⟨b1, k1, h1, h2⟩
      rcases live b1 k1 g1 h1 h2 with ⟨-, -, h3, h4⟩ | ⟨-, -, h3⟩
      · exact ok.img g1 ⟨b1, k1, h3, h4⟩
      · rw [h3]; exact ok.img g himg
    · intro b1 e1 cs1 wh1 g1 h1 h2
      rcases live b1 _ g1 h1 h2 with ⟨hne, -, h3, h4⟩ | ⟨-, h3, h4⟩
      · have hgg : g1 ≠ g := fun h => hne (ok.inj b1 b _ k g1 h3 hb h4 (h ▸ hg))
        exact (ok.blk b1 e1 cs1 wh1 g1 h3 h4).keep (hto.keeps ok) (setRow_other c.w g g1 cur' hgg)
      · simp only [Blk.mk.injEq] at h3
        obtain ⟨rfl, rfl, rfl⟩ := h3
        subst h4
        exact .inl ⟨cur', xs', setRow_heap c.w g1 cur cur' k.e (0, 0) hcur, hr.to hto ok, hp, fun h => by cases h⟩
    · intro b1 b2 k1 k2 g1 h1 h2 h3 h4
      rcases live b1 k1 g1 h1 h3 with ⟨hne, -, h5, h6⟩ | ⟨h5, -, h6⟩ <;> rcases live b2 k2 g1 h2 h4 with ⟨hne', -, h7, h8⟩ | ⟨h7, -, h8⟩
      · exact ok.inj b1 b2 k1 k2 g1 h5 h7 h6 h8
      · subst h8
        exact absurd (ok.inj b1 b k1 k g1 h5 hb h6 hg) hne
      · subst h6
        exact absurd (ok.inj b2 b k2 k g1 h7 hb h8 hg) hne'
      · omega
  · simp only [c']
    rw [← hlen]
    simp
theorem alloc_old {w : World} {o : Obj} {g : Nat} (hg : g < w.heap.size) : (w.alloc o).heap[g]? = w.heap[g]? := by
  show (w.heap.push o)[g]? = w.heap[g]?
  rw [Array.getElem?_push]
  simp [Nat.ne_of_lt hg]

/-- A new block of another kind. -/
theorem newSp {c : Cfg} (ok : Ok Gd c) {o : Obj} {cs : List A} (hB : ∀ ρ' own' w', Keeps c.ρ c.own c.w ρ' own' w' → w'.heap[c.w.heap.size]? = some o → BlkR Gd ρ' own' w' 0 cs true c.w.heap.size) :
    ∃ c', c'.H = c.H ++ [some ⟨0, cs, true⟩] ∧ c'.w = c.w.alloc o ∧ To c c' ∧ Ok Gd c' ∧ c'.ρ[c.H.length]? = some c.w.heap.size ∧ c'.w.heap[c.w.heap.size]? = some o := by
  have hsize : (c.w.alloc o).heap.size = c.w.heap.size + 1 := World.size_alloc ..
  have hold : ∀ g, g < c.w.heap.size → (c.w.alloc o).heap[g]? = c.w.heap[g]? := fun g hg => alloc_old hg
  have hnew : (c.w.alloc o).heap[c.w.heap.size]? = some o := World.alloc_heap_new ..
  let c' : Cfg := ⟨c.ρ ++ [c.w.heap.size], fun g => c.own g ∨ g = c.w.heap.size, c.H ++ [some ⟨0, cs, true⟩], c.w.alloc o⟩
  have hlen := ok.len
  have live : ∀ (b : Nat) (k : Blk) (g : Nat), c'.H[b]? = some (some k) → c'.ρ[b]? = some g → (c.H[b]? = some (some k) ∧ c.ρ[b]? = some g) ∨ (b = c.H.length ∧ k = ⟨0, cs, true⟩ ∧ g = c.w.heap.size) := by
    intro b k g hb hg
    rcases Nat.lt_or_ge b c.H.length with hlt | hge
    · left
      exact ⟨by simpa [c', List.getElem?_append_left hlt] using hb, by simpa [c', List.getElem?_append_left (by omega : b < c.ρ.length)] using hg⟩
    · right
      have hb' : b = c.H.length := by
        have := (List.getElem?_eq_some_iff.1 hb).1
        simp [c'] at this
        omega
      subst hb'
      refine ⟨rfl, ?_, ?_⟩
      · simpa [c', eq_comm] using hb
      · simp only [c'] at hg
        rw [← hlen, List.getElem?_append_right (Nat.le_refl _)] at hg
        simpa [eq_comm] using hg
  have hto : To c c' := by
    refine ⟨List.prefix_append _ _, by simp [c', hsize], rfl, rfl, rfl, ?_, fun g hg _ => hold g hg, fun g cur1 e1 fz1 h1 => ⟨cur1, fz1, (hold g (Array.getElem?_eq_some_iff.1 h1).1).trans h1, rfl⟩, fun g es1 n1 h1 => ⟨es1, n1, (hold g (Array.getElem?_eq_some_iff.1 h1).1).trans h1⟩, fun g o h1 _ => ⟨o, (hold g (Array.getElem?_eq_some_iff.1 h1).1).trans h1, rfl⟩, ?_⟩
    · rintro g hg ⟨b, k, hb, hbg⟩
      rcases live b k g hb hbg with ⟨h1, h2⟩ | ⟨-, -, h3⟩
      · exact ⟨b, k, h1, h2⟩
      · omega
    · intro g hg
      simp only [c']
      constructor
      · rintro (h | h)
        · exact h
        · omega
      · exact .inl
  refine ⟨c', rfl, rfl, hto, ?_, ?_, hnew⟩
  · refine ⟨by simp [c', hlen], ?_, ?_, ?_, ?_, hto.glob ok⟩
    · rintro g (h | h)
      · have := ok.lt g h
        simp [c', hsize]
        omega
      · simp [c', hsize, h]
    · rintro g ⟨b, k, hb, hbg⟩
      rcases live b k g hb hbg with ⟨h1, h2⟩ | ⟨-, -, h3⟩
      · exact .inl (ok.img g ⟨b, k, h1, h2⟩)
      · exact .inr h3
    · intro b e1 cs1 wh1 g hb hg
      rcases live b _ g hb hg with ⟨h1, h2⟩ | ⟨-, h2, h3⟩
      · exact (ok.blk b e1 cs1 wh1 g h1 h2).keep (hto.keeps ok) (hold g (ok.lt g (ok.img g ⟨b, _, h1, h2⟩)))
      · simp only [Blk.mk.injEq] at h2
        obtain ⟨rfl, rfl, rfl⟩ := h2
        subst h3
        exact hB _ _ _ (hto.keeps ok) hnew
    · intro b b' k k' g hb hb' hg hg'
      rcases live b k g hb hg with ⟨h1, h2⟩ | ⟨h1, -, h3⟩ <;> rcases live b' k' g hb' hg' with ⟨h4, h5⟩ | ⟨h4, -, h6⟩
      · exact ok.inj b b' k k' g h1 h4 h2 h5
      · have := ok.lt g (ok.img g ⟨b, k, h1, h2⟩)
        omega
      · have := ok.lt g (ok.img g ⟨b', k', h4, h5⟩)
        omega
      · omega
  · simp only [c']
    rw [← hlen]
    simp

/-- A block of another kind is written. -/
theorem setSp {c : Cfg} (ok : Ok Gd c) {b g : Nat} {k : Blk} {o o' : Obj} {cs : List A} (hb : c.H[b]? = some (some k)) (hg : c.ρ[b]? = some g) (hcur : c.w.heap[g]? = some o) (hk0 : okind o ≠ 0) (hk : okind o' = okind o)
    (hB : ∀ ρ' own' w', Keeps c.ρ c.own c.w ρ' own' w' → w'.heap[g]? = some o' → BlkR Gd ρ' own' w' 0 cs true g) :
    ∃ c', c'.H = c.H.set b (some ⟨0, cs, true⟩) ∧ c'.w = c.w.putObj g o' ∧ To c c' ∧ Ok Gd c' ∧ c'.ρ = c.ρ := by
  let c' : Cfg := ⟨c.ρ, c.own, c.H.set b (some ⟨0, cs, true⟩), c.w.putObj g o'⟩
  have hbl := (List.getElem?_eq_some_iff.1 hb).1
  have live : ∀ (b1 : Nat) (k1 : Blk) (g1 : Nat), c'.H[b1]? = some (some k1) → c'.ρ[b1]? = some g1 → (b1 ≠ b ∧ c.H[b1]? = some (some k1) ∧ c.ρ[b1]? = some g1) ∨ (b1 = b ∧ k1 = ⟨0, cs, true⟩ ∧ g1 = g) := by
    intro b1 k1 g1 h1 h2
    by_cases hbb : b1 = b
    · subst hbb
      right
      have h3 : c.ρ[b1]? = some g1 := h2
      rw [hg] at h3
      simp only [c', List.getElem?_set_self hbl, Option.some.injEq] at h1
      exact ⟨rfl, h1.symm, (Option.some.inj h3).symm⟩
    · left
      refine ⟨hbb, ?_, h2⟩
      simpa [c', List.getElem?_set_ne (Ne.symm hbb)] using h1
  have himg : img c.ρ c.H g := ⟨b, k, hb, hg⟩
  have hother : ∀ g1, g1 ≠ g → (c.w.putObj g o').heap[g1]? = c.w.heap[g1]? := fun g1 hg1 => World.putObj_heap_other hg1
  have hself : (c.w.putObj g o').heap[g]? = some o' := World.putObj_heap_same (Array.getElem?_eq_some_iff.1 hcur).1
  have hto : To c c' := by
    refine ⟨List.prefix_rfl, by simp [c'], rfl, rfl, rfl, ?_, ?_, fun g1 cur1 e1 fz1 h1 => ⟨cur1, fz1, (hother g1 (by rintro rfl; rw [hcur] at h1; cases h1; exact hk0 rfl)).trans h1, rfl⟩, fun g1 es1 n1 h1 => ⟨es1, n1, (hother g1 (by rintro rfl; rw [hcur] at h1; cases h1; exact hk0 rfl)).trans h1⟩, ?_, fun _ _ => Iff.rfl⟩
    · rintro g1 hg1 ⟨b1, k1, h1, h2⟩
      rcases live b1 k1 g1 h1 h2 with ⟨-, h3, h4⟩ | ⟨-, -, h3⟩
      · exact ⟨b1, k1, h3, h4⟩
      · rw [h3]; exact himg
    · intro g1 hg1 hn
      exact hother g1 fun h => hn (h ▸ himg)
    · intro g1 o1 h1 h0
      by_cases hgg : g1 = g
      · subst hgg
        rw [hcur] at h1
        cases h1
        exact ⟨o', hself, hk⟩
      · exact ⟨o1, (hother g1 hgg).trans h1, rfl⟩
  refine ⟨c', rfl, rfl, hto, ?_, rfl⟩
  refine ⟨by simp [c', ok.len], fun g1 h1 => by simpa [c'] using ok.lt g1 h1, ?_, ?_, ?_, hto.glob ok⟩
  · rintro g1 ⟨b1, k1, h1, h2⟩
    rcases live b1 k1 g1 h1 h2 with ⟨-, h3, h4⟩ | ⟨-, -, h3⟩
    · exact ok.img g1 ⟨b1, k1, h3, h4⟩
    · rw [h3]; exact ok.img g himg
  · intro b1 e1 cs1 wh1 g1 h1 h2
    rcases live b1 _ g1 h1 h2 with ⟨hne, h3, h4⟩ | ⟨-, h3, h4⟩
    · have hgg : g1 ≠ g := fun h => hne (ok.inj b1 b _ k g1 h3 hb h4 (h ▸ hg))
      exact (ok.blk b1 e1 cs1 wh1 g1 h3 h4).keep (hto.keeps ok) (hother g1 hgg)
    · simp only [Blk.mk.injEq] at h3
      obtain ⟨rfl, rfl, rfl⟩ := h3
      subst h4
      exact hB _ _ _ (hto.keeps ok) hself
  · intro b1 b2 k1 k2 g1 h1 h2 h3 h4
    rcases live b1 k1 g1 h1 h3 with ⟨hne, h5, h6⟩ | ⟨h5, -, h6⟩ <;> rcases live b2 k2 g1 h2 h4 with ⟨hne', h7, h8⟩ | ⟨h7, -, h8⟩
    · exact ok.inj b1 b2 k1 k2 g1 h5 h7 h6 h8
    · subst h8
      exact absurd (ok.inj b1 b k1 k g1 h5 hb h6 hg) hne
    · subst h6
      exact absurd (ok.inj b2 b k2 k g1 h7 hb h8 hg) hne'
    · omega

end Go.Proofs.YtijpomemobgddaaGreatDoor.Ev
