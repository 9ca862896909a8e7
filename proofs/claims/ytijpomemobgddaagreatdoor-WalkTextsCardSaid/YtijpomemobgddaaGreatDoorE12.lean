/- The evaluator's operations on live blocks are the model's: variables, literal slices, stores, make, append, copy. -/
import Derived.Test.YtijpomemobgddaaGreatDoorE11
set_option linter.unusedSimpArgs false
set_option linter.unusedVariables false
namespace Go.Proofs.YtijpomemobgddaaGreatDoor.Ev
open Go Go.RowKit
variable {P : Program} {T : Tb}

theorem one_ok {ρ : List Nat} {own : Nat → Prop} {w : World} {a : A} {y : Value} (h : R ρ own w a y) (h1 : one a = true) : y.oneCell' = true := by
  cases a with
  | v x =>
    simp only [R] at h
    subst h
    cases y <;> first
      | rfl
      | (simp [one] at h1)
  | agg cs => simp [one] at h1
  | tup cs => simp [one] at h1
  | ptr b off => simp only [R] at h; obtain ⟨g, -, rfl, -⟩ := h; rfl
  | mp b => simp only [R] at h; obtain ⟨g, -, rfl, -⟩ := h; rfl
  | mf cs =>
    simp only [R] at h
    rcases h with ⟨-, rfl⟩ | ⟨g, es, n, rfl, -⟩ <;> rfl
  | ref b off len sz => simp only [R] at h; obtain ⟨g, cap, cur, e, fz, -, rfl, -⟩ := h; rfl
  | sl len cs =>
    simp only [R] at h
    rcases h with ⟨-, -, ad, cap, rfl⟩ | ⟨g, off, cap, xs, rfl, -⟩ <;> rfl
  | fp cs => simp only [R] at h; obtain ⟨g, off, xs, rfl, -⟩ := h; rfl
  | clo f fs caps => simp only [R] at h; obtain ⟨xs, ys, rfl, -⟩ := h; rfl
  | yl b => simp only [R] at h; obtain ⟨g, -, rfl, -⟩ := h; rfl
  | lrec nt ps sl a b => rw [R] at h; exact h.elim
  | it b => simp only [R] at h; obtain ⟨g, -, rfl, -⟩ := h; rfl
  | its s p => rw [R] at h; exact h.elim
theorem ones_ok {ρ : List Nat} {own : Nat → Prop} {w : World} : ∀ {cs : List A} {ys : List Value}, RL ρ own w cs ys → ones cs = true → ∀ v ∈ ys, v.oneCell' = true
  | [], ys, h, _, v, hv => by rw [RL] at h; subst h; cases hv
  | c :: cs, ys, h, h1, v, hv => by
    rw [RL] at h
    obtain ⟨x, xs, rfl, h2, h3⟩ := h
    simp only [ones, Bool.and_eq_true] at h1
    cases hv with
    | head => exact one_ok h2 h1.1
    | tail _ hm => exact ones_ok h3 h1.2 v hm

theorem made_zeros (z : List Value) (h : 0 < z.length) : ∀ n : Nat, (madeCells z.toArray (n * z.length)).toList = (List.replicate n z).flatten
  | 0 => by simp [madeCells]
  | n + 1 => by
    have ih := made_zeros z h n
    simp only [madeCells, Array.toList_map, Array.toList_range, List.size_toArray] at ih ⊢
    rw [List.replicate_succ, List.flatten_cons, ← ih, Nat.add_mul, Nat.one_mul, Nat.add_comm, List.range_add, List.map_append, List.map_map]
    congr 1
    · apply List.ext_getElem
      · simp
      · intro i h1 h2
        simp only [List.length_map, List.length_range] at h1
        simp [Nat.mod_eq_of_lt h1, h1]
    · apply List.map_congr_left
      intro i _
      simp
theorem zeros_ok {ρ : List Nat} {own : Nat → Prop} {w : World} (z : List Value) : ∀ n : Nat, RL ρ own w (zeros z n) (List.replicate n z).flatten
  | 0 => by simp only [zeros, List.replicate_zero, List.flatten_nil]; exact RL.nil
  | n + 1 => by
    rw [List.replicate_succ, List.flatten_cons]
    exact (RL.exact z).append (zeros_ok z n)
theorem fillA_length (place : Nat → Option (Nat × Nat)) : ∀ (ps : List (Nat × A)) (cs r : List A), fillA place cs ps = some r → r.length = cs.length
  | [], cs, r, h => by simp [fillA] at h; rw [h]
  | (i, x) :: ps, cs, r, h => by
    unfold fillA at h
    cases hp : place i with
    | none => simp [hp] at h
    | some os =>
      obtain ⟨off, size⟩ := os
      simp only [hp] at h
      split at h
      · rw [fillA_length place ps _ r h]
        simp
        omega
      · cases h
theorem zeros_length (z : List Value) : ∀ n : Nat, (zeros z n).length = n * z.length
  | 0 => by simp [zeros]
  | n + 1 => by simp [zeros, zeros_length z n, Nat.add_mul, Nat.add_comm]

section
variable {c : Cfg} {e : Env} {a : Act} {o : Oper} {x : A} {H' : Heap}
/-- What is asked of an operation that may write. -/
def Makes (T : Tb) (P : Program) (c : Cfg) (a : Act) (o : Oper) (x : A) (H' : Heap) : Prop :=
  ∃ r y c', (execOp a.eval o).run P c.w = .ok r c'.w ∧ (r = .value y ∨ (r = .skip ∧ y = undef)) ∧ c'.H = H' ∧ To c c' ∧ Ok T.gl c' ∧ R c'.ρ c'.own c'.w x y
theorem Makes.mk {s : Sem Value} {y : Value} {c' : Cfg} (hx : execOp a.eval o = (do pure (.value (← s)) : Sem Next)) (h : s.run P c.w = .ok y c'.w) (hH : c'.H = H') (ht : To c c') (hk : Ok T.gl c') (hr : R c'.ρ c'.own c'.w x y) : Makes T P c a o x H' :=
  ⟨.value y, y, c', by rw [hx]; simp [h], .inl rfl, hH, ht, hk, hr⟩
theorem Gives.makes (ok : Ok T.gl c) (h : Gives P c a o x) : Makes T P c a o x c.H := let ⟨y, h1, h2⟩ := h; ⟨.value y, y, c, h1, .inl rfl, rfl, To.refl c, ok, h2⟩

theorem alloc_ok (hT : TOk P T) (ok : Ok T.gl c) {t : TypeId} (ho : o.op = .alloc t) (h : loudOp T e c.H (.alloc t) = some (x, H')) : Makes T P c a o x H' := by
  simp only [loudOp] at h
  cases hty : T t with
  | none => simp [hty] at h
  | some ty =>
    simp only [hty, Option.some.injEq, Prod.mk.injEq] at h
    obtain ⟨rfl, rfl⟩ := h
    obtain ⟨z, hz, hzc, -⟩ := (hT.facts hty).zero c.w
    have hx : execOp a.eval o = (do pure (.value (← Instr.alloc t true (.tuple #[]))) : Sem Next) := by simp only [execOp, ho]
    obtain ⟨c', h1, h2, h3, h4, h5, h6⟩ := newBlk (w' := c.w.alloc (.cells z.cells t)) (e := t) (wh := true) (cs := ty.zero.map .v) (cur := z.cells) (xs := ty.zero) ok (.inl rfl) (RL.exact _) (by rw [hzc]; exact List.prefix_rfl) (by intro _; rw [← Array.length_toList, hzc]; simp)
    refine Makes.mk hx (y := .pointer (some ⟨c.w.heap.size, 0, none⟩)) ?_ h1 h3 h4 (by rw [R]; exact ⟨_, h5, rfl, _, _, _, h6⟩)
    rw [h2]
    simp [Instr.alloc, hz, newVar, newRow]

theorem box_ok (ok : Ok T.gl c) (he : EnvR c e a) {t : TypeId} {p : Operand} (ho : o.op = .box t p) (h : loudOp T e c.H (.box t p) = some (x, H')) : Makes T P c a o x H' := by
  simp only [loudOp] at h
  cases hp : opnd e p with
  | none => simp [hp] at h
  | some u =>
    simp only [hp] at h
    split at h
    · simp only [Option.some.injEq, Prod.mk.injEq] at h
      obtain ⟨rfl, rfl⟩ := h
      have hx : execOp a.eval o = (do pure (.value (← Instr.box t (a.eval p))) : Sem Next) := by simp only [execOp, ho]
      have hu := cellsA_ok (he.opnd hp)
      obtain ⟨c', h1, h2, h3, h4, h5, h6⟩ := newBlk (w' := c.w.alloc (.cells (a.eval p).cells t)) (e := t) (wh := true) (cur := (a.eval p).cells) ok (.inl rfl) hu List.prefix_rfl (by intro _; rw [← hu.length]; simp)
      refine Makes.mk hx (y := .pointer (some ⟨c.w.heap.size, 0, none⟩)) ?_ h1 h3 h4 (by rw [R]; exact ⟨_, h5, rfl, _, _, _, h6⟩)
      rw [h2]
      simp [Instr.box, newVar, newRow]
    · cases h

theorem zero_cells' {t : TypeId} {ty : Ty} (F : TyFacts P t ty) (w : World) : ∃ z, (zeroValue t).run P w = .ok z w ∧ z.cells = ty.zero.toArray := by
  obtain ⟨z, h1, h2, -⟩ := F.zero w
  exact ⟨z, h1, by rw [← h2]⟩

theorem litCells_ok (hT : TOk P T) (he : EnvR c e a) {t : TypeId} {len : Nat} {ps : Array (Nat × Operand)} {el : TypeId} {sz : Nat} {cs : List A} (h : litCells T e t len ps = some (el, sz, cs)) :
    ∃ xs, RL c.ρ c.own c.w cs xs ∧ len ≤ maxLen ∧ xs.length = len * sz ∧ 0 < sz ∧ (Instr.buildSlice t len (ps.map fun (i, x) => (i, a.eval x))).run P c.w = .ok (.slice (some ⟨c.w.heap.size, 0, none⟩) len len) (c.w.alloc (.cells xs.toArray el)) := by
  unfold litCells at h
  split at h
  · rename_i ty hty
    split at h
    · rename_i el' hk
      split at h
      · rename_i te qs hte hq
        split at h
        · rename_i hc
          cases hf : fillA (fun i => some (i * te.size, te.size)) (zeros te.zero len) qs with
          | none => simp [hf] at h
          | some r =>
            simp only [hf, Option.map_some, Option.some.injEq, Prod.mk.injEq] at h
            obtain ⟨rfl, rfl, rfl⟩ := h
            obtain ⟨d, hd, hkd⟩ := (hT.facts hty).desc
            rw [hk] at hkd
            obtain rfl := kOf_slice hkd
            obtain ⟨h1, h2⟩ := partsA_ok he hq
            obtain ⟨xs, h3, h4⟩ := fill_ok _ qs _ _ _ r hf (zeros_ok (ρ := c.ρ) (own := c.own) (w := c.w) te.zero len) h1 h2
            obtain ⟨z, hz, hzc⟩ := zero_cells' (hT.facts hte) c.w
            obtain ⟨c1, c2, c3, c4⟩ := hc
            have hlen : xs.length = len * te.size := by rw [h4.length, fillA_length _ _ _ _ hf, zeros_length, c4]
            refine ⟨xs, h4, c3, hlen, c2, ?_⟩
            have hlist : (ps.map fun (i, x) => (i, a.eval x)).toList = ps.toList.map fun p => (p.1, a.eval p.2) := by simp
            have hfill : Instr.fill (fun i => some (i * te.size, te.size)) ((Array.range (len * te.size)).map (fun i => (if len * te.size = 0 then #[] else z.cells)[i % (if len * te.size = 0 then #[] else z.cells).size]!)) (ps.map fun (i, x) => (i, a.eval x)).toList = some xs.toArray := by
              rw [hlist, ← h3]
              congr 1
              by_cases h0 : len * te.size = 0
              · have hl0 : len = 0 := by
                  rcases Nat.mul_eq_zero.1 h0 with h | h
                  · exact h
                  · omega
                subst hl0
                simp
              · simp only [h0, if_false]
                apply Array.ext'
                have := made_zeros te.zero (by omega) len
                rw [c4] at this
                rw [hzc]
                simpa [madeCells] using this
            have h24 : ¬ (len * te.size > 2 ^ 24) := by omega
            by_cases h0 : len * te.size = 0
            · simp only [h0, if_true] at hfill
              simp [Instr.buildSlice, run_underlying hd, (hT.facts hte).run_sizeOf, h0, newRow]
              simp at hfill
              simp [hfill]
            · simp only [h0, if_false] at hfill
              simp only [Instr.buildSlice, Sem.run_bind, run_underlying hd, Result.andThen_ok, (hT.facts hte).run_sizeOf, h24, h0, if_false, hz, Sem.run_pure, hfill]
              simp [newRow]
        · cases h
      · cases h
    · cases h
  · cases h
end
end Go.Proofs.YtijpomemobgddaaGreatDoor.Ev
namespace Go.Proofs.YtijpomemobgddaaGreatDoor.Ev
open Go Go.RowKit
variable {P : Program} {T : Tb}
section
variable {c : Cfg} {e : Env} {a : Act} {o : Oper} {x : A} {H' : Heap}

theorem buildSlice_ok (hT : TOk P T) (ok : Ok T.gl c) (he : EnvR c e a) {t : TypeId} {len : Nat} {ps : Array (Nat × Operand)} (ho : o.op = .buildSlice t len ps) (h : loudOp T e c.H (.buildSlice t len ps) = some (x, H')) : Makes T P c a o x H' := by
  simp only [loudOp] at h
  split at h
  · rename_i el sz cs hl
    split at h
    · simp only [Option.some.injEq, Prod.mk.injEq] at h
      obtain ⟨rfl, rfl⟩ := h
      obtain ⟨xs, h1, h2, h3, h4, hrun⟩ := litCells_ok hT he hl
      have hx : execOp a.eval o = (do pure (.value (← Instr.buildSlice t len (ps.map fun (i, x) => (i, a.eval x)))) : Sem Next) := by simp only [execOp, ho]
      obtain ⟨c', k1, k2, k3, k4, k5, -⟩ := newBlk (w' := c.w.alloc (.cells xs.toArray el)) (e := el) (wh := true) (cur := xs.toArray) (xs := xs) ok (.inl rfl) h1 (by simp) (by intro _; simpa using h1.length)
      refine Makes.mk hx (y := .slice (some ⟨c.w.heap.size, 0, none⟩) len len) (by rw [k2]; exact hrun) k1 k3 k4 ?_
      rw [R]
      refine ⟨c.w.heap.size, len, xs.toArray, el, (0, 0), k5, rfl, Nat.le_refl _, h2, by rw [k2]; exact heap_alloc_new c.w _, by simp [h3]⟩
    · cases h
  · cases h

theorem store_ok (hT : TOk P T) (ok : Ok T.gl c) (he : EnvR c e a) {t : TypeId} {p q : Operand} (ho : o.op = .store t p q) (h : loudOp T e c.H (.store t p q) = some (x, H')) : Makes T P c a o x H' := by
  simp only [loudOp] at h
  split at h
  · rename_i b off u ty hp hq hty
    split at h
    · rename_i k hb
      split at h
      · rename_i hc
        simp only [Option.some.injEq, Prod.mk.injEq] at h
        obtain ⟨rfl, rfl⟩ := h
        obtain ⟨c1, c2, c3⟩ := hc
        have hpr := he.opnd hp
        simp only [R] at hpr
        obtain ⟨g, hg, hpa, hsh⟩ := hpr
        have hv := cellsA_ok (he.opnd hq)
        obtain ⟨cur, xs, hcur, hxs, -, hpre, hwh⟩ := ok.lies hb hg hsh
        have hvl : (a.eval q).cells.size = ty.size := by rw [← c1, ← hv.length]; simp
        have hxl := hxs.length
        have hcl : k.cs.length ≤ cur.size := by rw [← hxl]; simpa using hpre.length_le
        have hrun := run_storeCells_at (P := P) g off k.e (a.eval q).cells.toList 0 cur c.w hcur (by simp; omega) (ones_ok hv c3)
        obtain ⟨t', ht'⟩ := hpre
        have hlist : cur.toList.take (off + 0) ++ (a.eval q).cells.toList ++ cur.toList.drop (off + 0 + (a.eval q).cells.toList.length) = (xs.take off ++ (a.eval q).cells.toList ++ xs.drop (off + ty.size)) ++ t' := by
          rw [← ht']
          simp only [Nat.add_zero, Array.length_toList, hvl]
          rw [List.take_append_of_le_length (by omega), List.drop_append_of_le_length (by omega)]
          simp [List.append_assoc]
        rw [hlist] at hrun
        obtain ⟨c', k1, k2, k3, k4, -⟩ := setBlk (cur' := ((xs.take off ++ (a.eval q).cells.toList ++ xs.drop (off + ty.size)) ++ t').toArray) ok hb hg hcur (((hxs.take off).append hv).append (hxs.drop (off + ty.size))) (by simp) (by
            have := congrArg List.length ht'
            simp only [List.length_append, Array.length_toList] at this
            simp [hvl]
            omega) (by
            intro hw
            have := hwh hw
            have h2 := congrArg List.length ht'
            simp only [List.length_append, Array.length_toList] at h2
            simp [hvl, c1]
            omega)
        refine ⟨.skip, undef, c', ?_, .inr ⟨rfl, rfl⟩, k1, k3, k4, by rw [R]⟩
        have hn : ¬ ((a.eval q).cells.size ≠ ty.size) := by simpa using hvl
        simp only [execOp, ho, Sem.run_bind, Instr.storeAt, Instr.sureAddr, hpa, Sem.run_pure, Result.andThen_ok, storeVar, (hT.facts hty).run_sizeOf, hn, if_false, hrun, k2]
      · cases h
    · cases h
  · cases h

theorem makeSlice_ok (hT : TOk P T) (ok : Ok T.gl c) (he : EnvR c e a) {t : TypeId} {p q : Operand} (ho : o.op = .makeSlice t p q) (h : loudOp T e c.H (.makeSlice t p q) = some (x, H')) : Makes T P c a o x H' := by
  simp only [loudOp] at h
  split at h
  · rename_i ty k1 n k2 m hty hp hq
    split at h
    · rename_i el hk
      split at h
      · rename_i te hte
        split at h
        · rename_i hc
          simp only [Option.some.injEq, Prod.mk.injEq] at h
          obtain ⟨rfl, rfl⟩ := h
          obtain ⟨c1, c2, c3, c4, c5, c6⟩ := hc
          obtain ⟨d, hd, hkd⟩ := (hT.facts hty).desc
          rw [hk] at hkd
          obtain rfl := kOf_slice hkd
          obtain ⟨i, z, hi, hs, hby, hz, -⟩ := (hT.facts hte).info
          obtain ⟨z', hz1, hzc⟩ := zero_cells' (hT.facts hte) c.w
          have hzz : z' = z := by simpa [zeroValue, typeInfo, hi, hz, eq_comm] using hz1
          subst hzz
          have hpr := he.opnd hp
          have hqr := he.opnd hq
          simp only [R] at hpr hqr
          have hb : (i.bytes : Int) * m ≤ 281474976710656 := by rw [hby, Int.mul_comm]; omega
          have hm63 : m ≤ 9223372036854775807 := by simpa [maxLen] using c4
          have hrun := run_make (P := P) c.w t el i z' hd hi hz k1 k2 n m c1 c2 hb hm63
          have hx : execOp a.eval o = (do pure (.value (← Instr.makeSlice t (a.eval p) (a.eval q))) : Sem Next) := by simp only [execOp, ho]
          have hmade : (madeCells z'.cells (m.toNat * i.size)).toList = (List.replicate m.toNat te.zero).flatten := by
            rw [hzc, hs, ← c6]
            exact made_zeros te.zero (by omega) m.toNat
          have hlen : (madeCells z'.cells (m.toNat * i.size)).size = m.toNat * te.size := by rw [size_madeCells, hs]
          obtain ⟨c', j1, j2, j3, j4, j5, -⟩ := newBlk (w' := c.w.alloc (.cells (madeCells z'.cells (m.toNat * i.size)) el)) (e := el) (wh := true) (cur := madeCells z'.cells (m.toNat * i.size)) ok (.inl rfl) (zeros_ok te.zero m.toNat) (by rw [hmade]; exact List.prefix_rfl) (by
              intro _
              rw [hlen, zeros_length, c6])
          refine Makes.mk hx (y := .slice (some ⟨c.w.heap.size, 0, none⟩) n.toNat m.toNat) (by rw [j2, hpr, hqr]; exact hrun) j1 j3 j4 ?_
          rw [R]
          refine ⟨c.w.heap.size, m.toNat, _, el, (0, 0), j5, rfl, by omega, by omega, by rw [j2]; exact heap_alloc_new c.w _, by rw [hlen]; omega⟩
        · cases h
      · cases h
    · cases h
  · cases h

/-- What a slice holds is what is read of it. -/
theorem srcL_ok (ok : Ok T.gl c) {u : A} {y : Value} {sz m : Nat} {news : List A} (h : loudOp.srcL c.H sz u = some (m, news)) (hn : news.length = m * sz) (hr : R c.ρ c.own c.w u y) :
    (∀ w, (Builtin.lenOf y).run P w = .ok m w) ∧ ∃ vs, RL c.ρ c.own c.w news vs ∧ ∀ (j : Nat) (w' : World), j ≤ m → (∀ ad, w'.cell? ad = c.w.cell? ad) → (Builtin.firstCells sz j y).run P w' = .ok (vs.take (j * sz)).toArray w' := by
  have lie : ∀ (g off cap : Nat) (vs : List Value), y = .slice (some ⟨g, off, none⟩) m cap → RL c.ρ c.own c.w news vs → Lies c.w g off vs → (∀ w, (Builtin.lenOf y).run P w = .ok m w) ∧ ∃ vs, RL c.ρ c.own c.w news vs ∧ ∀ (j : Nat) (w' : World), j ≤ m → (∀ ad, w'.cell? ad = c.w.cell? ad) → (Builtin.firstCells sz j y).run P w' = .ok (vs.take (j * sz)).toArray w' := by
    intro g off cap vs hy h1 h2
    subst hy
    refine ⟨fun w => by simp [Builtin.lenOf], vs, h1, fun j w' hj hw => ?_⟩
    have hvl := h1.length
    have hjm : j * sz ≤ m * sz := Nat.mul_le_mul_right _ hj
    refine run_firstCells_some w' sz j ⟨g, off, none⟩ m cap _ (by rw [List.length_take]; omega) fun i v hv => ?_
    rw [Addr.add_lit, hw]
    exact h2.take _ i v hv
  unfold loudOp.srcL at h
  split at h
  · rename_i n cs
    simp only [Option.some.injEq, Prod.mk.injEq] at h
    obtain ⟨rfl, rfl⟩ := h
    simp only [R] at hr
    rcases hr with ⟨rfl, rfl, ad, cap, rfl⟩ | ⟨g, off, cap, xs, rfl, h0, h1, h2, h3, h4⟩
    · refine ⟨fun w => by simp [Builtin.lenOf], [], RL.nil, fun j w' hj _ => ?_⟩
      obtain rfl : j = 0 := by omega
      cases ad <;> simp [Builtin.firstCells, loadCells, loadCellsFrom]
    · exact lie g off cap xs rfl h3.open_ h4
  · simp only [Option.some.injEq, Prod.mk.injEq] at h
    obtain ⟨rfl, rfl⟩ := h
    simp only [R] at hr
    subst hr
    refine ⟨fun w => by simp [Builtin.lenOf], [], RL.nil, fun j w' hj _ => ?_⟩
    simp [Builtin.firstCells]
  · rename_i b off n s
    split at h
    · rename_i k hb
      split at h
      · rename_i hc
        simp only [Option.some.injEq, Prod.mk.injEq] at h
        obtain ⟨rfl, rfl⟩ := h
        obtain ⟨rfl, hc⟩ := hc
        simp only [R] at hr
        obtain ⟨g, cap, cur, e', fz, hg, rfl, -, -, hcl, -⟩ := hr
        obtain ⟨cur1, xs, -, h2, h3, -⟩ := ok.lies hb hg ⟨cur, e', fz, hcl⟩
        refine lie g off cap ((xs.drop off).take (n * s)) rfl ((h2.drop off).take _) ?_
        have := (h3.drop off).take (n * s)
        simpa using this
      · cases h
    · cases h
  · cases h

theorem kOf_int {d : TypeDesc} {k : IntKind} (h : kOf d = .int k) : d = .int k := by
  cases d <;> first
    | (simp only [kOf, K.int.injEq] at h; subst h; rfl)
    | (simp [kOf] at h; done)
theorem kOf_ptr {d : TypeDesc} {e : TypeId} (h : kOf d = .ptr e) : d = .pointer e := by
  cases d <;> first
    | (simp only [kOf, K.ptr.injEq] at h; subst h; rfl)
    | (simp [kOf] at h; done)
/-- What is appended, for the two ways of an append: there is room; there is none. -/
structure Src (P : Program) (te : Ty) (el t t' ty : TypeId) (y : Value) (m : Nat) (vs : List Value) (w : World) : Prop where
  inn : ∀ {g n cap : Nat} {cur : Array Value} {e : TypeId}, w.heap[g]? = some (.cells cur e (0, 0)) → n + m ≤ cap → n * te.size + vs.length ≤ cur.size →
    (Builtin.append_ #[t, t'] ty #[.slice (some ⟨g, 0, none⟩) n cap, y]).run P w = .ok (.slice (some ⟨g, 0, none⟩) (n + m) cap) (w.setRow g (cur.toList.take (n * te.size) ++ vs ++ cur.toList.drop (n * te.size + vs.length)).toArray)
  out : ∀ {s : Value} {xs : List Value} {base : Option Addr} {n cap : Nat}, s = .slice base n cap → (Builtin.firstCells te.size n s).run P w.drew = .ok xs.toArray w.drew → cap < n + m → n + m ≤ maxLen → (n + m) * te.bytes ≤ 2 ^ 47 →
    ∃ z : Value, (zeroValue el).run P w.drew = .ok z w.drew ∧ (Builtin.append_ #[t, t'] ty #[s, y]).run P w = .ok (.slice (some ⟨w.heap.size, 0, none⟩) (n + m) (grownCap w (n + m) cap el)) (w.drew.alloc (.cells (xs.toArray ++ (vs.toArray ++ Builtin.zeroCells z.cells (grownCap w (n + m) cap el - (n + m)))) el))
  nil : m = 0 → (Builtin.append_ #[t, t'] ty #[.slice none 0 0, y]).run P w = .ok (.slice none 0 0) w
theorem src_of {t t' ty el : TypeId} {te : Ty} (hT : TOk P T) (hte : T el = some te) (ht : P.underlying t = some (.slice el)) {d' : TypeDesc} (ht' : P.underlying t' = some d') (hd' : ∀ k, d' ≠ .int k) {w : World} {y : Value} {m : Nat} {vs : List Value}
    (hl : ∀ w, (Builtin.lenOf y).run P w = .ok m w) (hf : (Builtin.firstCells te.size m y).run P w = .ok vs.toArray w) (hf1 : (Builtin.firstCells te.size m y).run P w.drew = .ok vs.toArray w.drew) (hv : ∀ v ∈ vs, v.oneCell' = true) (hvl : vs.length = m * te.size) : Src P te el t t' ty y m vs w := by
  have hdd : (match d' with | .int _ => true | _ => false) = false := by
    cases d' <;> first | rfl | exact absurd rfl (hd' _)
  refine ⟨?_, ?_, ?_⟩
  · intro g n cap cur e hcur hroom hfit
    have hst := run_storeCells_at P g (n * te.size) e vs 0 cur w hcur (by simpa using hfit) hv
    simp only [Nat.add_zero] at hst
    simp [Builtin.append_, run_underlying ht, run_underlying ht', hdd, (hT.facts hte).run_sizeOf, hl, hroom, hf, Addr.add_lit, hst]
  · intro s xs base n cap hs hfs hroom h63 hby
    obtain ⟨i, z, hi, his, hib, hz, -⟩ := (hT.facts hte).info
    have hzr : (zeroValue el).run P w.drew = .ok z w.drew := by simp [zeroValue, typeInfo, hi, hz]
    refine ⟨z, hzr, ?_⟩
    subst hs
    have h1 : ¬ (n + m ≤ cap) := by omega
    have hfit := growslice_fits (bytes := te.bytes) hroom (by simpa using hby)
    have h2 : ¬ (Builtin.nextslicecap (n + m) cap * i.bytes > 2 ^ 48) := by rw [hib]; omega
    have hns : ¬ (281474976710656 < Builtin.nextslicecap (n + m) cap * i.bytes) := by simpa using h2
    have h63' : ¬ (9223372036854775807 < (n : Int) + m) := by simp only [maxLen] at h63; omega
    simp [Builtin.append_, run_underlying ht, run_underlying ht', hdd, (hT.facts hte).run_sizeOf, hl, h1, typeInfo, hi, hns, h63', hfs, hf1, hzr, newRow, IntKind.max, IntKind.signed, IntKind.bits, Question.forced, grownCap]
  · intro hm
    subst hm
    obtain rfl : vs = [] := List.eq_nil_of_length_eq_zero (by rw [hvl]; simp)
    simp [Builtin.append_, run_underlying ht, run_underlying ht', hdd, (hT.facts hte).run_sizeOf, hl, hf]
/-- 'append(s, make([]E, n)...)': the model lays the zeros. -/
theorem src_zero {t t' ty el : TypeId} {te : Ty} (hT : TOk P T) (hte : T el = some te) (ht : P.underlying t = some (.slice el)) {k : IntKind} (ht' : P.underlying t' = some (.int k)) {w : World} {m : Nat} {vs : List Value} (hm : m ≤ maxLen)
    (hz : ∀ w, (do pure (Builtin.zeroCells (← zeroValue el).cells m) : Sem (Array Value)).run P w = .ok vs.toArray w) (hv : ∀ v ∈ vs, v.oneCell' = true) (hvl : vs.length = m * te.size) (hbig : m * te.bytes ≤ 2 ^ 47) : Src P te el t t' ty (.int .i64 m) m vs w := by
  obtain ⟨i, z, hi, his, hib, hzv, -⟩ := (hT.facts hte).info
  have hzr : ∀ w, (zeroValue el).run P w = .ok z w := fun w => by simp [zeroValue, typeInfo, hi, hzv]
  have hvz : Builtin.zeroCells z.cells m = vs.toArray := by
    have := hz w
    simpa [hzr] using this
  have hwr : IntKind.i64.wrap (m : Int) = m := by
    simp only [maxLen] at hm
    rw [IntKind.wrap_i64]
    omega
  have hb1 : ¬ ((m : Int) * i.bytes > 2 ^ 48) := by
    rw [hib]
    have : ((m * te.bytes : Nat) : Int) ≤ ((2 ^ 47 : Nat) : Int) := Int.ofNat_le.2 hbig
    rw [Int.natCast_mul] at this
    omega
  have hns1 : ¬ (281474976710656 < (m : Int) * i.bytes) := by simpa using hb1
  have hneg : ¬ ((m : Int) < 0) := by omega
  have hmz : m * te.size = 0 → vs = [] := fun h => List.eq_nil_of_length_eq_zero (by rw [hvl, h])
  have happ : ∀ w, ((if m * te.size = 0 then pure #[] else do pure (Builtin.zeroCells (← zeroValue el).cells m) : Sem (Array Value))).run P w = .ok vs.toArray w := by
    intro w
    split
    · rename_i h
      rw [hmz h]
      rfl
    · exact hz w
  refine ⟨?_, ?_, ?_⟩
  · intro g n cap cur e hcur hroom hfit
    have hst := run_storeCells_at P g (n * te.size) e vs 0 cur w hcur (by simpa using hfit) hv
    simp only [Nat.add_zero] at hst
    have ha := happ w
    simp only [Builtin.append_]
    simp [run_underlying ht, run_underlying ht', (hT.facts hte).run_sizeOf, asInt, asIntOf, hwr, hneg, typeInfo, hi, hns1, hroom, Addr.add_lit]
    by_cases h0 : m * te.size = 0
    · have hv0 := hmz h0
      subst hv0
      rw [if_pos h0, hst]
      simp
    · rw [if_neg h0]
      simp [hzr, hvz, hst]
  · intro s xs base n cap hs hfs hroom h63 hby
    refine ⟨z, hzr _, ?_⟩
    subst hs
    have h1 : ¬ (n + m ≤ cap) := by omega
    have hfit := growslice_fits (bytes := te.bytes) hroom (by simpa using hby)
    have h2 : ¬ (Builtin.nextslicecap (n + m) cap * i.bytes > 2 ^ 48) := by rw [hib]; omega
    have hns : ¬ (281474976710656 < Builtin.nextslicecap (n + m) cap * i.bytes) := by simpa using h2
    have h63' : ¬ (9223372036854775807 < (n : Int) + m) := by simp only [maxLen] at h63; omega
    by_cases h0 : m * te.size = 0
    · have hv0 := hmz h0
      subst hv0
      simp [Builtin.append_, run_underlying ht, run_underlying ht', (hT.facts hte).run_sizeOf, asInt, asIntOf, hwr, hneg, typeInfo, hi, hns1, h1, hns, h63', hfs, h0, hzr, newRow, IntKind.max, IntKind.signed, IntKind.bits, Question.forced, grownCap]
    · simp [Builtin.append_, run_underlying ht, run_underlying ht', (hT.facts hte).run_sizeOf, asInt, asIntOf, hwr, hneg, typeInfo, hi, hns1, h1, hns, h63', hfs, h0, hzr, hvz, newRow, IntKind.max, IntKind.signed, IntKind.bits, Question.forced, grownCap]
  · intro hm
    subst hm
    simp [Builtin.append_, run_underlying ht, run_underlying ht', (hT.facts hte).run_sizeOf, asInt, asIntOf, typeInfo, hi, IntKind.wrap_i64]

theorem append_ok (hT : TOk P T) (ok : Ok T.gl c) (he : EnvR c e a) {cl : Call} (ho : o.op = .call cl) (hc : cl.callee = .builtin .append) (h : loudOp T e c.H (.call cl) = some (x, H')) : Makes T P c a o x H' := by
  simp only [loudOp, hc] at h
  have hx : execOp a.eval o = (do pure (.value (← Builtin.append_ cl.argTypes o.type (cl.args.map a.eval))) : Sem Next) := by simp [execOp, ho, resolve, hc, invoke, builtin]
  split at h
  · rename_i s u t t' hargs htys
    · split at h
      · rename_i ty hty
        split at h
        · rename_i el hk
          split at h
          · rename_i te hte
            split at h
            · rename_i m news hsrc
              split at h
              · rename_i hcond
                obtain ⟨q1, q2, q3⟩ := hcond
                obtain ⟨d, hd, hkd⟩ := (hT.facts hty).desc
                rw [hk] at hkd
                obtain rfl := kOf_slice hkd
                have hrl := he.opnds hargs
                rw [RL] at hrl
                obtain ⟨y1, ys, hys, hr1, hr2⟩ := hrl
                obtain ⟨y2, rfl, hr3⟩ := hr2.single
                have hargs' : cl.args.map a.eval = #[y1, y2] := by
                  apply Array.ext'
                  simpa using hys
                have htys' : cl.argTypes = #[t, t'] := by
                  apply Array.ext'
                  simpa using htys
                rw [hargs', htys'] at hx
                have hone0 : ∀ vs, RL c.ρ c.own c.w news vs → ∀ v ∈ vs, v.oneCell' = true := fun vs hvs => ones_ok hvs q3
                have hsrc' : ∃ vs, RL c.ρ c.own c.w news vs ∧ ((m = 0 ∨ m * te.bytes ≤ 2 ^ 47) → Src P te el t t' o.type y2 m vs c.w) := by
                  unfold loudOp.srcT at hsrc
                  cases htt : Nat.beq t t' with
                  | true =>
                    obtain rfl := Nat.eq_of_beq_eq_true htt
                    rw [htt, cond_true] at hsrc
                    obtain ⟨hlen, vs, hvs, hfirst⟩ := srcL_ok (P := P) ok hsrc q1 hr3
                    have hvl := hvs.length
                    have hf0 := hfirst m c.w (Nat.le_refl _) (fun _ => rfl)
                    have hf1 := hfirst m c.w.drew (Nat.le_refl _) (fun _ => rfl)
                    have htk : vs.take (m * te.size) = vs := List.take_of_length_le (by omega)
                    rw [htk] at hf0 hf1
                    exact ⟨vs, hvs, fun _ => src_of hT hte hd hd (by intro k; simp) hlen hf0 hf1 (hone0 vs hvs) (by rw [hvl, q1])⟩
                  | false =>
                    rw [htt, cond_false] at hsrc
                    split at hsrc
                    · rename_i ty2 hty2
                      obtain ⟨d2, hd2, hkd2⟩ := (hT.facts hty2).desc
                      split at hsrc
                      · rename_i str hk2
                        rw [hk2] at hkd2
                        obtain rfl := kOf_str hkd2
                        cases hs1 : Nat.beq te.size 1 with
                        | false => simp [hs1] at hsrc
                        | true =>
                          have hs1 := Nat.eq_of_beq_eq_true hs1
                          rw [hs1] at hsrc
                          simp only [show Nat.beq 1 1 = true from rfl, cond_true, Option.some.injEq, Prod.mk.injEq] at hsrc
                          obtain ⟨rfl, rfl⟩ := hsrc
                          rw [R] at hr3
                          subst hr3
                          have hvs : RL c.ρ c.own c.w (bytesA str.data.toList) (Lib.strCells str) := by
                            have := RL.exact (ρ := c.ρ) (own := c.own) (w := c.w) (Lib.strCells str)
                            simpa [bytesA, Lib.strCells, Function.comp_def] using this
                          refine ⟨Lib.strCells str, hvs, fun _ => src_of hT hte hd hd2 (by intro k; simp) (fun w => by simp [Builtin.lenOf]) ?_ ?_ (hone0 _ hvs) (by rw [Lib.strCells_length, hs1, Nat.mul_one])⟩
                          · exact Lib.run_firstCells_string c.w te.size str
                          · exact Lib.run_firstCells_string c.w.drew te.size str
                      · rename_i k2 l hk2
                        rw [hk2] at hkd2
                        obtain rfl := kOf_int hkd2
                        split at hsrc
                        · rename_i hl0
                          simp only [Option.some.injEq, Prod.mk.injEq] at hsrc
                          obtain ⟨rfl, rfl⟩ := hsrc
                          rw [R] at hr3
                          subst hr3
                          have hln : ((l.toNat : Nat) : Int) = l := by omega
                          have hvs : RL c.ρ c.own c.w (zeros te.zero l.toNat) (List.replicate l.toNat te.zero).flatten := zeros_ok te.zero l.toNat
                          have hvl : (List.replicate l.toNat te.zero).flatten.length = l.toNat * te.size := by rw [hvs.length, q1]
                          refine ⟨_, hvs, fun hbig => ?_⟩
                          have hz0 := src_zero (ty := o.type) (w := c.w) (m := l.toNat) (vs := (List.replicate l.toNat te.zero).flatten) hT hte hd hd2 (by omega) (fun w => ?_) (hone0 _ hvs) hvl ?_
                          rw [hln] at hz0
                          exact hz0
                          · obtain ⟨z, hz, hzc⟩ := zero_cells' (hT.facts hte) w
                            simp only [Sem.run_bind, hz, Result.andThen_ok, Sem.run_pure, hzc]
                            congr 1
                            apply Array.ext'
                            rw [← made_zeros te.zero (by omega) l.toNat]
                            rfl
                          · rcases hbig with h | h
                            · rw [h, Nat.zero_mul]; exact Nat.zero_le _
                            · exact h
                        · cases hsrc
                      · cases hsrc
                    · cases hsrc
                obtain ⟨vs, hvs, hsrc'⟩ := hsrc'
                have hvl := hvs.length
                have hone := hone0 vs hvs
                split at h
                · simp only [R] at hr1
                  subst hr1
                  split at h
                  · rename_i hm
                    subst hm
                    simp only [Option.some.injEq, Prod.mk.injEq] at h
                    obtain ⟨rfl, rfl⟩ := h
                    exact Makes.mk hx (y := .slice none 0 0) (c' := c) ((hsrc' (.inl rfl)).nil rfl) rfl (To.refl c) ok (by rw [R])
                  · rename_i hm
                    split at h
                    · rename_i hb
                      simp only [Option.some.injEq, Prod.mk.injEq] at h
                      obtain ⟨rfl, rfl⟩ := h
                      obtain ⟨z, hz, hrun⟩ := (hsrc' (.inr hb.2)).out (s := .slice none 0 0) (xs := []) rfl (by simp [Builtin.firstCells]) (by omega) (by simpa using hb.1) (by simpa using hb.2)
                      simp only [Nat.zero_add] at hrun
                      have hge := grownCap_ge c.w m 0 el
                      have hle := grownCap_le_maxLen c.w m 0 el hb.1
                      obtain ⟨z', hz', hzc⟩ := zero_cells' (hT.facts hte) c.w.drew
                      obtain rfl : z' = z := by rw [hz] at hz'; simpa [eq_comm] using hz'
                      obtain ⟨c', k1, k2, k3, k4, k5, -⟩ := newBlk (e := el) (wh := false) (cs := news) (xs := vs) ok (.inr rfl) hvs (cur := [].toArray ++ (vs.toArray ++ Builtin.zeroCells z'.cells (grownCap c.w m 0 el - m))) (by simp) (by simp)
                      refine Makes.mk hx (by rw [k2]; exact hrun) k1 k3 k4 ?_
                      rw [R]
                      refine ⟨c.w.heap.size, _, _, el, (0, 0), k5, rfl, hge, hle, by rw [k2]; exact heap_alloc_new c.w.drew _, ?_⟩
                      simp only [Array.size_append, List.size_toArray, List.length_nil, size_zeroCells, hzc, Nat.zero_add, hvl, q1, q2]
                      rw [← Nat.add_mul]
                      refine Nat.le_of_eq ?_
                      congr 1
                      omega
                    · cases h
                · rename_i b n sz
                  split at h
                  · rename_i k hb
                    split at h
                    · rename_i hcd
                      simp only [Option.some.injEq, Prod.mk.injEq] at h
                      obtain ⟨rfl, rfl⟩ := h
                      obtain ⟨rfl, rfl, d3, d4, d5⟩ := hcd
                      simp only [R] at hr1
                      obtain ⟨g, cap, cur0, e0, fz0, hg, rfl, hn, hcap, hcur0, hsum⟩ := hr1
                      obtain ⟨cur, xs, hcur, hxs, hlie, hpre, -⟩ := ok.lies hb hg ⟨cur0, e0, fz0, hcur0⟩
                      rw [hcur] at hcur0
                      simp only [Option.some.injEq, Obj.cells.injEq] at hcur0
                      obtain ⟨rfl, rfl, -⟩ := hcur0
                      have hxl := hxs.length
                      simp only [Nat.zero_add] at hsum
                      have hnew : RL c.ρ c.own c.w (k.cs.take (n * te.size) ++ news) (xs.take (n * te.size) ++ vs) := (hxs.take _).append hvs
                      by_cases hroom : n + m ≤ cap
                      · have hfit : n * te.size + vs.length ≤ cur.size := by
                          refine Nat.le_trans ?_ hsum
                          rw [hvl, q1, ← Nat.add_mul]
                          exact Nat.mul_le_mul_right _ hroom
                        have hrun := (hsrc' (.inr (by have := Nat.add_mul n m te.bytes; omega))).inn hcur hroom hfit
                        have hpre' : xs.take (n * te.size) = cur.toList.take (n * te.size) := by
                          obtain ⟨t', ht'⟩ := hpre
                          rw [← ht', List.take_append_of_le_length (by omega)]
                        rw [← hpre'] at hrun
                        obtain ⟨c', k1, k2, k3, k4, k5⟩ := moveBlk (xs' := xs.take (n * te.size) ++ vs) (cur' := (xs.take (n * te.size) ++ vs ++ cur.toList.drop (n * te.size + vs.length)).toArray) ok hb hg hcur hnew (by simp) (by
                          simp
                          omega)
                        refine Makes.mk hx (by rw [k2]; exact hrun) k1 k3 k4 ?_
                        rw [R]
                        refine ⟨g, cap, _, k.e, (0, 0), k5, rfl, hroom, hcap, by rw [k2]; exact setRow_heap c.w g cur _ k.e (0, 0) hcur, ?_⟩
                        simp
                        omega
                      · have hfs : (Builtin.firstCells te.size n (.slice (some ⟨g, 0, none⟩) n cap)).run P c.w.drew = .ok (xs.take (n * te.size)).toArray c.w.drew := by
                          refine run_firstCells_some c.w.drew te.size n ⟨g, 0, none⟩ n cap _ (by rw [List.length_take]; omega) fun i v hv => ?_
                          rw [Addr.add_lit]
                          exact hlie.take _ i v hv
                        obtain ⟨z, hz, hrun⟩ := (hsrc' (.inr (by have := Nat.add_mul n m te.bytes; omega))).out rfl hfs (by omega) d4 d5
                        have hge := grownCap_ge c.w (n + m) cap k.e
                        have hle := grownCap_le_maxLen c.w (n + m) cap k.e d4
                        obtain ⟨z', hz', hzc⟩ := zero_cells' (hT.facts hte) c.w.drew
                        obtain rfl : z' = z := by rw [hz] at hz'; simpa [eq_comm] using hz'
                        obtain ⟨t1, o1⟩ := dropBlk ok b
                        obtain ⟨c', k1, k2, k3, k4, k5, -⟩ := newBlk (e := k.e) (wh := false) (cs := k.cs.take (n * te.size) ++ news) (xs := xs.take (n * te.size) ++ vs) o1 (.inr rfl) hnew (cur := (xs.take (n * te.size)).toArray ++ (vs.toArray ++ Builtin.zeroCells z'.cells (grownCap c.w (n + m) cap k.e - (n + m)))) (by simp) (by simp)
                        refine Makes.mk hx (by rw [k2]; exact hrun) k1 (t1.trans k3) k4 ?_
                        rw [R]
                        refine ⟨c.w.heap.size, _, _, k.e, (0, 0), by simpa using k5, rfl, hge, hle, by rw [k2]; exact heap_alloc_new c.w.drew _, ?_⟩
                        have hx1 : min (n * te.size) xs.length = n * te.size := by omega
                        simp only [Array.size_append, List.size_toArray, List.length_take, size_zeroCells, hzc, Nat.zero_add, hvl, q1, q2, hx1]
                        rw [← Nat.add_mul, ← Nat.add_mul]
                        refine Nat.le_of_eq ?_
                        congr 1
                        omega
                    · cases h
                  · cases h
                · cases h
              · cases h
            · cases h
          · cases h
        · cases h
      · cases h
  · cases h

theorem unsafeString_ok (hT : TOk P T) (ok : Ok T.gl c) (he : EnvR c e a) {cl : Call} (ho : o.op = .call cl) (hc : cl.callee = .builtin .unsafeString) (h : loudOp T e c.H (.call cl) = some (x, H')) : Makes T P c a o x H' := by
  simp only [loudOp, hc] at h
  have hx : execOp a.eval o = (do pure (.value (← Builtin.unsafeString_ cl.argTypes o.type (cl.args.map a.eval))) : Sem Next) := by simp [execOp, ho, resolve, hc, invoke, builtin]
  split at h
  · rename_i p n pt hargs hpt
    have hrl := he.opnds hargs
    rw [RL] at hrl
    obtain ⟨y1, ys, hys, hr1, hr2⟩ := hrl
    obtain ⟨y2, rfl, hr3⟩ := hr2.single
    rw [R] at hr3
    subst hr3
    have hargs' : cl.args.map a.eval = #[y1, .int .i64 n] := by
      apply Array.ext'
      simpa using hys
    rw [hargs'] at hx
    have hdef : ∀ y1 : Value, Builtin.unsafeString_ cl.argTypes o.type #[y1, .int .i64 n] = Builtin.unsafeString_ #[pt, pt] o.type #[y1, .int .i64 n] := by
      intro y1
      obtain ⟨rest, hrest⟩ : ∃ rest, cl.argTypes = ⟨pt :: rest⟩ := by
        cases hat : cl.argTypes with
        | mk l =>
          rw [hat] at hpt
          cases l with
          | nil => simp at hpt
          | cons q l =>
            simp at hpt
            exact ⟨l, by rw [hpt]⟩
      rw [hrest]
      rfl
    unfold strOf at h
    split at h
    · split at h
      · rename_i hn
        subst hn
        simp only [Option.some.injEq, Prod.mk.injEq] at h
        obtain ⟨rfl, rfl⟩ := h
        rw [R] at hr1
        subst hr1
        refine Makes.mk hx (y := .string .empty) (c' := c) ?_ rfl (To.refl c) ok (by rw [R])
        rw [hdef]
        exact Lib.run_unsafeString_none c.w pt pt o.type none
      · cases h
    · rename_i b
      split at h
      · rename_i ty k hty hb
        split at h
        · rename_i el hk
          split at h
          · rename_i te l hte hl
            split at h
            · rename_i hcond
              obtain ⟨q1, q2, q3, q4, q5⟩ := hcond
              simp only [Option.some.injEq, Prod.mk.injEq] at h
              obtain ⟨rfl, rfl⟩ := h
              obtain ⟨d, hd, hkd⟩ := (hT.facts hty).desc
              rw [hk] at hkd
              obtain rfl := kOf_ptr hkd
              rw [R] at hr1
              obtain ⟨g, hg, rfl, cur0, e0, fz0, hcur0⟩ := hr1
              obtain ⟨cur, xs, hcur, hxs, hlie, hpre, -⟩ := ok.lies hb hg ⟨cur0, e0, fz0, hcur0⟩
              have hxl := hxs.length
              have hb1 := bytesOf_ok (hxs.take n.toNat) hl
              have hll : l.length ≤ xs.length := by
                have := congrArg List.length hb1
                simp only [List.length_take, Lib.byteCells_length] at this
                omega
              have hlc : xs.length ≤ cur.size := by
                obtain ⟨t', ht'⟩ := hpre
                have := congrArg List.length ht'
                simp only [List.length_append, Array.length_toList] at this
                omega
              obtain ⟨i, z, hi, his, -⟩ := (hT.facts hte).info
              have hcells : P.cellsOf el = 1 := by
                unfold Program.cellsOf
                rw [hi]
                simp [his, q1]
              have hsh : c.w.shape? g = some (el, cur.size) := by
                subst q2
                simp [World.shape?, hcur]
              have hne : l ≠ [] := by
                rintro rfl
                simp at q4
                omega
              have hnl : n = (l.length : Int) := by omega
              have hrun := Lib.run_unsafeString_row c.w pt pt o.type el hd hcells g cur.size hsh l hne (by omega) (by simpa [maxLen] using q5) (fun j u hj => by
                rw [Addr.add_lit]
                refine hlie j _ ?_
                have h9 : (xs.take n.toNat)[j]? = some (.int .u8 u.toNat) := by rw [hb1]; simp [Lib.byteCells, hj]
                rw [List.getElem?_take] at h9
                split at h9
                · simpa using h9
                · cases h9)
              rw [← hnl] at hrun
              obtain ⟨t1, o1⟩ := freezeBlk ok hb hg hcur 0 l.length (by omega)
              refine Makes.mk hx (y := .string ⟨l.toArray⟩) (c' := ⟨c.ρ, c.own, c.H.set b none, c.w.freeze ⟨g, 0, none⟩ l.length⟩) ?_ rfl t1 o1 (by rw [R])
              rw [hdef]
              exact hrun
            · cases h
          · cases h
        · cases h
      · cases h
    · cases h
  · cases h
end
end Go.Proofs.YtijpomemobgddaaGreatDoor.Ev
