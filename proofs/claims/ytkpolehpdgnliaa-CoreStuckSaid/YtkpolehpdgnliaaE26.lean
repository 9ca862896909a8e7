/- New blocks that come up ahead of their place in the canonical order. -/
import Derived.Test.YtkpolehpdgnliaaE25
set_option linter.unusedSimpArgs false
set_option linter.unusedVariables false
namespace Go.Proofs.Ytkpolehpdgnliaa.Ev
open Go Go.RowKit
variable {P : Program} {T : Tb}

/-- A new block that the evaluator does not know of yet. -/
structure Early (T : Tb) (b0 : Nat) (c : Cfg) (t : TypeId) (g : Nat) : Prop where
  new : b0 ≤ g
  own : c.own g
  off : ¬ img c.ρ c.H g
  lies : ∃ ty cur, T t = some ty ∧ c.w.heap[g]? = some (.cells cur t (0, 0)) ∧ cur.toList = ty.zero
theorem Early.lt {b0 : Nat} {c : Cfg} {t : TypeId} {g : Nat} (h : Early T b0 c t g) : g < c.w.heap.size := by
  obtain ⟨ty, cur, -, h1, -⟩ := h.lies
  exact (Array.getElem?_eq_some_iff.1 h1).1
theorem Early.to {b0 : Nat} {c c' : Cfg} {t : TypeId} {g : Nat} (h : Early T b0 c t g) (ht : To c c') : Early T b0 c' t g := by
  obtain ⟨ty, cur, h0, h1, h2⟩ := h.lies
  exact ⟨h.new, (ht.own g h.lt).2 h.own, fun hi => h.off (ht.img g h.lt hi), ty, cur, h0, (ht.same g h.lt h.off).trans h1, h2⟩

theorem early_new (hT : TOk P T) {c : Cfg} (ok : Ok T.gl c) {a : Act} {o : Oper} {t : TypeId} {ty : Ty} (hty : T t = some ty) (ho : o.op = .alloc t) :
    ∃ c' : Cfg, (execOp a.eval o).run P c.w = .ok (.value (.pointer (some ⟨c.w.heap.size, 0, none⟩))) c'.w ∧ c'.H = c.H ∧ c'.ρ = c.ρ ∧ To c c' ∧ Ok T.gl c' ∧ Early T c.w.heap.size c' t c.w.heap.size := by
  obtain ⟨z, hz, hzc, -⟩ := (hT.facts hty).zero c.w
  have hG : Grow c.w (c.w.alloc (.cells z.cells t)) := (Below.refl _ _).alloc (Nat.le_refl _) _
  have hheap : (c.w.alloc (.cells z.cells t)).heap = c.w.heap.push (.cells z.cells t) := rfl
  obtain ⟨hto0, ok0⟩ := ok.grow hG
  have hto : To c ⟨c.ρ, fun g => c.own g ∨ g = c.w.heap.size, c.H, c.w.alloc (.cells z.cells t)⟩ :=
    ⟨hto0.pre, hto0.size, hto0.os, hto0.tape, hto0.output, hto0.img, hto0.same, hto0.shape, hto0.maps, fun g hg => ⟨fun h => h.elim id fun h => by omega, .inl⟩⟩
  refine ⟨⟨c.ρ, fun g => c.own g ∨ g = c.w.heap.size, c.H, c.w.alloc (.cells z.cells t)⟩, ?_, rfl, rfl, hto, ⟨ok.len, ?_, fun g hg => .inl (ok.img g hg), fun b e cs wh g hb hg => ?_, ok.inj, hto.glob ok⟩, Nat.le_refl _, .inr rfl, fun hi => ?_, ty, z.cells, hty, ?_, hzc⟩
  · have hx : execOp a.eval o = (do pure (.value (← Instr.alloc t true (.tuple #[]))) : Sem Next) := by simp only [execOp, ho]
    rw [hx]
    simp [Instr.alloc, hz, newVar, newRow]
  · rintro g (h | h)
    · exact Nat.lt_of_lt_of_le (ok.lt g h) hto.size
    · simp [hheap, h]
  · exact (ok.blk b e cs wh g hb hg).keep (hto.keeps ok) (hG.block g (ok.lt_blk hb hg))
  · have := ok.lt _ (ok.img _ hi)
    omega
  · simp [hheap]

theorem early_add {c : Cfg} (ok : Ok T.gl c) {b0 g : Nat} {t : TypeId} {ty : Ty} (he : Early T b0 c t g) (hty : T t = some ty) :
    ∃ c' : Cfg, c'.w = c.w ∧ c'.own = c.own ∧ c'.H = c.H ++ [some ⟨t, ty.zero.map .v, true⟩] ∧ c'.ρ = c.ρ ++ [g] ∧ Ok T.gl c' ∧ Keeps c.ρ c.own c.w c'.ρ c'.own c'.w ∧ c'.ρ[c.H.length]? = some g ∧ (∀ g', img c'.ρ c'.H g' → img c.ρ c.H g' ∨ g' = g) ∧
      ∀ c0 : Cfg, c0.w.heap.size ≤ g → To c0 c → To c0 c' := by
  obtain ⟨ty', cur, h0, h1, h2⟩ := he.lies
  rw [hty] at h0
  obtain rfl := Option.some.inj h0
  let c' : Cfg := ⟨c.ρ ++ [g], c.own, c.H ++ [some ⟨t, ty.zero.map .v, true⟩], c.w⟩
  have hlen := ok.len
  have live : ∀ (b : Nat) (k : Blk) (g1 : Nat), c'.H[b]? = some (some k) → c'.ρ[b]? = some g1 → (c.H[b]? = some (some k) ∧ c.ρ[b]? = some g1) ∨ (b = c.H.length ∧ k = ⟨t, ty.zero.map .v, true⟩ ∧ g1 = g) := by
    intro b k g1 hb hg
    rcases Nat.lt_or_ge b c.H.length with hlt | hge
    · left
      exact ⟨by simpa [c', List.getElem?_append_left hlt] using hb, by simpa [c', List.getElem?_append_left (by omega : b < c.ρ.length)] using hg⟩
    · right
      have hb' : b = c.H.length := by
        have := (List.getElem?_eq_some_iff.1 hb).1
        simp [c'] at this
        omega
      subst hb'
      refine ⟨rfl, ?_, ?_⟩
      · simpa [c', eq_comm] using hb
      · simp only [c'] at hg
        rw [← hlen, List.getElem?_append_right (Nat.le_refl _)] at hg
        simpa [eq_comm] using hg
  have hk : Keeps c.ρ c.own c.w c'.ρ c'.own c'.w := ⟨List.prefix_append _ _, Nat.le_refl _, fun _ _ h => ⟨h, rfl⟩, fun _ cur _ h => ⟨cur, h, rfl⟩, fun _ es n h => ⟨es, n, h⟩⟩
  have himg : ∀ g', img c'.ρ c'.H g' → img c.ρ c.H g' ∨ g' = g := by
    rintro g' ⟨b, k, hb, hbg⟩
    rcases live b k g' hb hbg with ⟨h3, h4⟩ | ⟨-, -, h3⟩
    · exact .inl ⟨b, k, h3, h4⟩
    · exact .inr h3
  refine ⟨c', rfl, rfl, rfl, rfl, ⟨by simp [c', hlen], ok.lt, fun g' hg' => ?_, fun b e1 cs1 wh1 g1 hb hg => ?_, fun b b' k k' g1 hb hb' hg hg' => ?_, ok.glob⟩, hk, ?_, himg, fun c0 hs hto => ?_⟩
  · rcases himg g' hg' with h | h
    · exact ok.img g' h
    · subst h; exact he.own
  · rcases live b _ g1 hb hg with ⟨h3, h4⟩ | ⟨-, h3, h4⟩
    · exact (ok.blk b e1 cs1 wh1 g1 h3 h4).keep hk rfl
    · simp only [Blk.mk.injEq] at h3
      obtain ⟨rfl, rfl, rfl⟩ := h3
      subst h4
      exact .inl ⟨cur, ty.zero, h1, RL.exact _, by rw [h2]; exact List.prefix_rfl, fun _ => by rw [← Array.length_toList, h2]; simp⟩
  · rcases live b k g1 hb hg with ⟨h3, h4⟩ | ⟨h3, -, h4⟩ <;> rcases live b' k' g1 hb' hg' with ⟨h5, h6⟩ | ⟨h5, -, h6⟩
    · exact ok.inj b b' k k' g1 h3 h5 h4 h6
    · subst h6
      exact absurd ⟨b, k, h3, h4⟩ he.off
    · subst h4
      exact absurd ⟨b', k', h5, h6⟩ he.off
    · omega
  · simp only [c']
    rw [← hlen]
    simp
  · exact ⟨hto.pre.trans (List.prefix_append _ _), hto.size, hto.os, hto.tape, hto.output, fun g1 hg1 hi => (himg g1 hi).elim (hto.img g1 hg1) (fun h => by omega), hto.same, hto.shape, hto.maps, hto.own⟩
end Go.Proofs.Ytkpolehpdgnliaa.Ev
