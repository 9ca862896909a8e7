/- The evaluator's operations on live blocks are the model's: variables, literal slices, stores, make, append, copy. -/
import Derived.Test.YtkpolehpdgnliaaE11
set_option linter.unusedSimpArgs false
set_option linter.unusedVariables false
namespace Go.Proofs.Ytkpolehpdgnliaa.Ev
open Go Go.RowKit
variable {P : Program} {T : Tb}

theorem one_ok {ρ : List Nat} {own : Nat → Prop} {w : World} {a : A} {y : Value} (h : R ρ own w a y) (h1 : one a = true) : y.oneCell' = true := by
  cases a with
  | v x =>
    simp only [R] at h
    subst h
    cases y <;> first
      | rfl
      | (simp [one] at h1)
  | agg cs => simp [one] at h1
  | tup cs => simp [one] at h1
  | ptr b off => simp only [R] at h; obtain ⟨g, -, rfl, -⟩ := h; rfl
  | mp b => simp only [R] at h; obtain ⟨g, -, rfl, -⟩ := h; rfl
  | mf cs =>
    simp only [R] at h
    rcases h with ⟨-, rfl⟩ | ⟨g, es, n, rfl, -⟩ <;> rfl
  | ref b off len sz => simp only [R] at h; obtain ⟨g, cap, cur, e, -, rfl, -⟩ := h; rfl
  | sl len cs =>
    simp only [R] at h
    rcases h with ⟨-, -, ad, cap, rfl⟩ | ⟨g, off, cap, xs, rfl, -⟩ <;> rfl
  | fp cs => simp only [R] at h; obtain ⟨g, off, xs, rfl, -⟩ := h; rfl
  | clo f fs caps => simp only [R] at h; obtain ⟨xs, ys, rfl, -⟩ := h; rfl
theorem ones_ok {ρ : List Nat} {own : Nat → Prop} {w : World} : ∀ {cs : List A} {ys : List Value}, RL ρ own w cs ys → ones cs = true → ∀ v ∈ ys, v.oneCell' = true
  | [], ys, h, _, v, hv => by rw [RL] at h; subst h; cases hv
  | c :: cs, ys, h, h1, v, hv => by
    rw [RL] at h
    obtain ⟨x, xs, rfl, h2, h3⟩ := h
    simp only [ones, Bool.and_eq_true] at h1
    cases hv with
    | head => exact one_ok h2 h1.1
    | tail _ hm => exact ones_ok h3 h1.2 v hm

theorem made_zeros (z : List Value) (h : 0 < z.length) : ∀ n : Nat, (madeCells z.toArray (n * z.length)).toList = (List.replicate n z).flatten
  | 0 => by simp [madeCells]
  | n + 1 => by
    have ih := made_zeros z h n
    simp only [madeCells, Array.toList_map, Array.toList_range, List.size_toArray] at ih ⊢
    rw [List.replicate_succ, List.flatten_cons, ← ih, Nat.add_mul, Nat.one_mul, Nat.add_comm, List.range_add, List.map_append, List.map_map]
    congr 1
    · apply List.ext_getElem
      · simp
      · intro i h1 h2
        simp only [List.length_map, List.length_range] at h1
        simp [Nat.mod_eq_of_lt h1, h1]
    · apply List.map_congr_left
      intro i _
      simp
theorem zeros_ok {ρ : List Nat} {own : Nat → Prop} {w : World} (z : List Value) : ∀ n : Nat, RL ρ own w (zeros z n) (List.replicate n z).flatten
  | 0 => by simp only [zeros, List.replicate_zero, List.flatten_nil]; exact RL.nil
  | n + 1 => by
    rw [List.replicate_succ, List.flatten_cons]
    exact (RL.exact z).append (zeros_ok z n)
theorem fillA_length (place : Nat → Option (Nat × Nat)) : ∀ (ps : List (Nat × A)) (cs r : List A), fillA place cs ps = some r → r.length = cs.length
  | [], cs, r, h => by simp [fillA] at h; rw [h]
  | (i, x) :: ps, cs, r, h => by
    unfold fillA at h
    cases hp : place i with
    | none => simp [hp] at h
    | some os =>
      obtain ⟨off, size⟩ := os
      simp only [hp] at h
      split at h
      · rw [fillA_length place ps _ r h]
        simp
        omega
      · cases h
theorem zeros_length (z : List Value) : ∀ n : Nat, (zeros z n).length = n * z.length
  | 0 => by simp [zeros]
  | n + 1 => by simp [zeros, zeros_length z n, Nat.add_mul, Nat.add_comm]

section
variable {c : Cfg} {e : Env} {a : Act} {o : Oper} {x : A} {H' : Heap}
/-- What is asked of an operation that may write. -/
def Makes (T : Tb) (P : Program) (c : Cfg) (a : Act) (o : Oper) (x : A) (H' : Heap) : Prop :=
  ∃ r y c', (execOp a.eval o).run P c.w = .ok r c'.w ∧ (r = .value y ∨ (r = .skip ∧ y = undef)) ∧ c'.H = H' ∧ To c c' ∧ Ok T.gl c' ∧ R c'.ρ c'.own c'.w x y
theorem Makes.mk {s : Sem Value} {y : Value} {c' : Cfg} (hx : execOp a.eval o = (do pure (.value (← s)) : Sem Next)) (h : s.run P c.w = .ok y c'.w) (hH : c'.H = H') (ht : To c c') (hk : Ok T.gl c') (hr : R c'.ρ c'.own c'.w x y) : Makes T P c a o x H' :=
  ⟨.value y, y, c', by rw [hx]; simp [h], .inl rfl, hH, ht, hk, hr⟩
theorem Gives.makes (ok : Ok T.gl c) (h : Gives P c a o x) : Makes T P c a o x c.H := let ⟨y, h1, h2⟩ := h; ⟨.value y, y, c, h1, .inl rfl, rfl, To.refl c, ok, h2⟩

theorem alloc_ok (hT : TOk P T) (ok : Ok T.gl c) {t : TypeId} (ho : o.op = .alloc t) (h : loudOp T e c.H (.alloc t) = some (x, H')) : Makes T P c a o x H' := by
  simp only [loudOp] at h
  cases hty : T t with
  | none => simp [hty] at h
  | some ty =>
    simp only [hty, Option.some.injEq, Prod.mk.injEq] at h
    obtain ⟨rfl, rfl⟩ := h
    obtain ⟨z, hz, hzc, -⟩ := (hT.facts hty).zero c.w
    have hx : execOp a.eval o = (do pure (.value (← Instr.alloc t true (.tuple #[]))) : Sem Next) := by simp only [execOp, ho]
    obtain ⟨c', h1, h2, h3, h4, h5, h6⟩ := newBlk (w' := c.w.alloc (.cells z.cells t)) (e := t) (wh := true) (cs := ty.zero.map .v) (cur := z.cells) (xs := ty.zero) ok (.inl rfl) (RL.exact _) (by rw [hzc]; exact List.prefix_rfl) (by intro _; rw [← Array.length_toList, hzc]; simp)
    refine Makes.mk hx (y := .pointer (some ⟨c.w.heap.size, 0, none⟩)) ?_ h1 h3 h4 (by rw [R]; exact ⟨_, h5, rfl, _, _, h6⟩)
    rw [h2]
    simp [Instr.alloc, hz, newVar, newRow]

theorem box_ok (ok : Ok T.gl c) (he : EnvR c e a) {t : TypeId} {p : Operand} (ho : o.op = .box t p) (h : loudOp T e c.H (.box t p) = some (x, H')) : Makes T P c a o x H' := by
  simp only [loudOp] at h
  cases hp : opnd e p with
  | none => simp [hp] at h
  | some u =>
    simp only [hp] at h
    split at h
    · simp only [Option.some.injEq, Prod.mk.injEq] at h
      obtain ⟨rfl, rfl⟩ := h
      have hx : execOp a.eval o = (do pure (.value (← Instr.box t (a.eval p))) : Sem Next) := by simp only [execOp, ho]
      have hu := cellsA_ok (he.opnd hp)
      obtain ⟨c', h1, h2, h3, h4, h5, h6⟩ := newBlk (w' := c.w.alloc (.cells (a.eval p).cells t)) (e := t) (wh := true) (cur := (a.eval p).cells) ok (.inl rfl) hu List.prefix_rfl (by intro _; rw [← hu.length]; simp)
      refine Makes.mk hx (y := .pointer (some ⟨c.w.heap.size, 0, none⟩)) ?_ h1 h3 h4 (by rw [R]; exact ⟨_, h5, rfl, _, _, h6⟩)
      rw [h2]
      simp [Instr.box, newVar, newRow]
    · cases h

theorem zero_cells' {t : TypeId} {ty : Ty} (F : TyFacts P t ty) (w : World) : ∃ z, (zeroValue t).run P w = .ok z w ∧ z.cells = ty.zero.toArray := by
  obtain ⟨z, h1, h2, -⟩ := F.zero w
  exact ⟨z, h1, by rw [← h2]⟩

theorem litCells_ok (hT : TOk P T) (he : EnvR c e a) {t : TypeId} {len : Nat} {ps : Array (Nat × Operand)} {el : TypeId} {sz : Nat} {cs : List A} (h : litCells T e t len ps = some (el, sz, cs)) :
    ∃ xs, RL c.ρ c.own c.w cs xs ∧ len ≤ maxLen ∧ xs.length = len * sz ∧ 0 < sz ∧ (Instr.buildSlice t len (ps.map fun (i, x) => (i, a.eval x))).run P c.w = .ok (.slice (some ⟨c.w.heap.size, 0, none⟩) len len) (c.w.alloc (.cells xs.toArray el)) := by
  unfold litCells at h
  split at h
  · rename_i ty hty
    split at h
    · rename_i el' hk
      split at h
      · rename_i te qs hte hq
        split at h
        · rename_i hc
          cases hf : fillA (fun i => some (i * te.size, te.size)) (zeros te.zero len) qs with
          | none => simp [hf] at h
          | some r =>
            simp only [hf, Option.map_some, Option.some.injEq, Prod.mk.injEq] at h
            obtain ⟨rfl, rfl, rfl⟩ := h
            obtain ⟨d, hd, hkd⟩ := (hT.facts hty).desc
            rw [hk] at hkd
            obtain rfl := kOf_slice hkd
            obtain ⟨h1, h2⟩ := partsA_ok he hq
            obtain ⟨xs, h3, h4⟩ := fill_ok _ qs _ _ _ r hf (zeros_ok (ρ := c.ρ) (own := c.own) (w := c.w) te.zero len) h1 h2
            obtain ⟨z, hz, hzc⟩ := zero_cells' (hT.facts hte) c.w
            obtain ⟨c1, c2, c3, c4⟩ := hc
            have hlen : xs.length = len * te.size := by rw [h4.length, fillA_length _ _ _ _ hf, zeros_length, c4]
            refine ⟨xs, h4, c3, hlen, c2, ?_⟩
            have hlist : (ps.map fun (i, x) => (i, a.eval x)).toList = ps.toList.map fun p => (p.1, a.eval p.2) := by simp
            have hfill : Instr.fill (fun i => some (i * te.size, te.size)) ((Array.range (len * te.size)).map (fun i => (if len * te.size = 0 then #[] else z.cells)[i % (if len * te.size = 0 then #[] else z.cells).size]!)) (ps.map fun (i, x) => (i, a.eval x)).toList = some xs.toArray := by
              rw [hlist, ← h3]
              congr 1
              by_cases h0 : len * te.size = 0
              · have hl0 : len = 0 := by
                  rcases Nat.mul_eq_zero.1 h0 with h | h
                  · exact h
                  · omega
                subst hl0
                simp
              · simp only [h0, if_false]
                apply Array.ext'
                have := made_zeros te.zero (by omega) len
                rw [c4] at this
                rw [hzc]
                simpa [madeCells] using this
            have h24 : ¬ (len * te.size > 2 ^ 24) := by omega
            by_cases h0 : len * te.size = 0
            · simp only [h0, if_true] at hfill
              simp [Instr.buildSlice, run_underlying hd, (hT.facts hte).run_sizeOf, h0, newRow]
              simp at hfill
              simp [hfill]
            · simp only [h0, if_false] at hfill
              simp only [Instr.buildSlice, Sem.run_bind, run_underlying hd, Result.andThen_ok, (hT.facts hte).run_sizeOf, h24, h0, if_false, hz, Sem.run_pure, hfill]
              simp [newRow]
        · cases h
      · cases h
    · cases h
  · cases h
end
end Go.Proofs.Ytkpolehpdgnliaa.Ev
