/- The evaluator's operations on live blocks are the model's: literal slices, stores, make, append, copy; all of them together. -/
import Derived.Test.YtkpolehpdgnliaaE12
set_option linter.unusedSimpArgs false
set_option linter.unusedVariables false
namespace Go.Proofs.Ytkpolehpdgnliaa.Ev
open Go Go.RowKit
variable {P : Program} {T : Tb}
section
variable {c : Cfg} {e : Env} {a : Act} {o : Oper} {x : A} {H' : Heap}

theorem buildSlice_ok (hT : TOk P T) (ok : Ok T.gl c) (he : EnvR c e a) {t : TypeId} {len : Nat} {ps : Array (Nat × Operand)} (ho : o.op = .buildSlice t len ps) (h : loudOp T e c.H (.buildSlice t len ps) = some (x, H')) : Makes T P c a o x H' := by
  simp only [loudOp] at h
  split at h
  · rename_i el sz cs hl
    split at h
    · simp only [Option.some.injEq, Prod.mk.injEq] at h
      obtain ⟨rfl, rfl⟩ := h
      obtain ⟨xs, h1, h2, h3, h4, hrun⟩ := litCells_ok hT he hl
      have hx : execOp a.eval o = (do pure (.value (← Instr.buildSlice t len (ps.map fun (i, x) => (i, a.eval x)))) : Sem Next) := by simp only [execOp, ho]
      obtain ⟨c', k1, k2, k3, k4, k5, -⟩ := newBlk (w' := c.w.alloc (.cells xs.toArray el)) (e := el) (wh := true) (cur := xs.toArray) (xs := xs) ok (.inl rfl) h1 (by simp) (by intro _; simpa using h1.length)
      refine Makes.mk hx (y := .slice (some ⟨c.w.heap.size, 0, none⟩) len len) (by rw [k2]; exact hrun) k1 k3 k4 ?_
      rw [R]
      refine ⟨c.w.heap.size, len, xs.toArray, el, k5, rfl, Nat.le_refl _, h2, by rw [k2]; exact heap_alloc_new c.w _, by simp [h3]⟩
    · cases h
  · cases h

theorem store_ok (hT : TOk P T) (ok : Ok T.gl c) (he : EnvR c e a) {t : TypeId} {p q : Operand} (ho : o.op = .store t p q) (h : loudOp T e c.H (.store t p q) = some (x, H')) : Makes T P c a o x H' := by
  simp only [loudOp] at h
  split at h
  · rename_i b off u ty hp hq hty
    split at h
    · rename_i k hb
      split at h
      · rename_i hc
        simp only [Option.some.injEq, Prod.mk.injEq] at h
        obtain ⟨rfl, rfl⟩ := h
        obtain ⟨c1, c2, c3⟩ := hc
        have hpr := he.opnd hp
        simp only [R] at hpr
        obtain ⟨g, hg, hpa, hsh⟩ := hpr
        have hv := cellsA_ok (he.opnd hq)
        obtain ⟨cur, xs, hcur, hxs, -, hpre, hwh⟩ := ok.lies hb hg hsh
        have hvl : (a.eval q).cells.size = ty.size := by rw [← c1, ← hv.length]; simp
        have hxl := hxs.length
        have hcl : k.cs.length ≤ cur.size := by rw [← hxl]; simpa using hpre.length_le
        have hrun := run_storeCells_at (P := P) g off k.e (a.eval q).cells.toList 0 cur c.w hcur (by simp; omega) (ones_ok hv c3)
        obtain ⟨t', ht'⟩ := hpre
        have hlist : cur.toList.take (off + 0) ++ (a.eval q).cells.toList ++ cur.toList.drop (off + 0 + (a.eval q).cells.toList.length) = (xs.take off ++ (a.eval q).cells.toList ++ xs.drop (off + ty.size)) ++ t' := by
          rw [← ht']
          simp only [Nat.add_zero, Array.length_toList, hvl]
          rw [List.take_append_of_le_length (by omega), List.drop_append_of_le_length (by omega)]
          simp [List.append_assoc]
        rw [hlist] at hrun
        obtain ⟨c', k1, k2, k3, k4, -⟩ := setBlk (cur' := ((xs.take off ++ (a.eval q).cells.toList ++ xs.drop (off + ty.size)) ++ t').toArray) ok hb hg hcur (((hxs.take off).append hv).append (hxs.drop (off + ty.size))) (by simp) (by
            have := congrArg List.length ht'
            simp only [List.length_append, Array.length_toList] at this
            simp [hvl]
            omega) (by
            intro hw
            have := hwh hw
            have h2 := congrArg List.length ht'
            simp only [List.length_append, Array.length_toList] at h2
            simp [hvl, c1]
            omega)
        refine ⟨.skip, undef, c', ?_, .inr ⟨rfl, rfl⟩, k1, k3, k4, by rw [R]⟩
        have hn : ¬ ((a.eval q).cells.size ≠ ty.size) := by simpa using hvl
        simp only [execOp, ho, Sem.run_bind, Instr.storeAt, Instr.sureAddr, hpa, Sem.run_pure, Result.andThen_ok, storeVar, (hT.facts hty).run_sizeOf, hn, if_false, hrun, k2]
      · cases h
    · cases h
  · cases h

theorem makeSlice_ok (hT : TOk P T) (ok : Ok T.gl c) (he : EnvR c e a) {t : TypeId} {p q : Operand} (ho : o.op = .makeSlice t p q) (h : loudOp T e c.H (.makeSlice t p q) = some (x, H')) : Makes T P c a o x H' := by
  simp only [loudOp] at h
  split at h
  · rename_i ty k1 n k2 m hty hp hq
    split at h
    · rename_i el hk
      split at h
      · rename_i te hte
        split at h
        · rename_i hc
          simp only [Option.some.injEq, Prod.mk.injEq] at h
          obtain ⟨rfl, rfl⟩ := h
          obtain ⟨c1, c2, c3, c4, c5, c6⟩ := hc
          obtain ⟨d, hd, hkd⟩ := (hT.facts hty).desc
          rw [hk] at hkd
          obtain rfl := kOf_slice hkd
          obtain ⟨i, z, hi, hs, hby, hz, -⟩ := (hT.facts hte).info
          obtain ⟨z', hz1, hzc⟩ := zero_cells' (hT.facts hte) c.w
          have hzz : z' = z := by simpa [zeroValue, typeInfo, hi, hz, eq_comm] using hz1
          subst hzz
          have hpr := he.opnd hp
          have hqr := he.opnd hq
          simp only [R] at hpr hqr
          have hb : (i.bytes : Int) * m ≤ 281474976710656 := by rw [hby, Int.mul_comm]; omega
          have hm63 : m ≤ 9223372036854775807 := by simpa [maxLen] using c4
          have hrun := run_make (P := P) c.w t el i z' hd hi hz k1 k2 n m c1 c2 hb hm63
          have hx : execOp a.eval o = (do pure (.value (← Instr.makeSlice t (a.eval p) (a.eval q))) : Sem Next) := by simp only [execOp, ho]
          have hmade : (madeCells z'.cells (m.toNat * i.size)).toList = (List.replicate m.toNat te.zero).flatten := by
            rw [hzc, hs, ← c6]
            exact made_zeros te.zero (by omega) m.toNat
          have hlen : (madeCells z'.cells (m.toNat * i.size)).size = m.toNat * te.size := by rw [size_madeCells, hs]
          obtain ⟨c', j1, j2, j3, j4, j5, -⟩ := newBlk (w' := c.w.alloc (.cells (madeCells z'.cells (m.toNat * i.size)) el)) (e := el) (wh := true) (cur := madeCells z'.cells (m.toNat * i.size)) ok (.inl rfl) (zeros_ok te.zero m.toNat) (by rw [hmade]; exact List.prefix_rfl) (by
              intro _
              rw [hlen, zeros_length, c6])
          refine Makes.mk hx (y := .slice (some ⟨c.w.heap.size, 0, none⟩) n.toNat m.toNat) (by rw [j2, hpr, hqr]; exact hrun) j1 j3 j4 ?_
          rw [R]
          refine ⟨c.w.heap.size, m.toNat, _, el, j5, rfl, by omega, by omega, by rw [j2]; exact heap_alloc_new c.w _, by rw [hlen]; omega⟩
        · cases h
      · cases h
    · cases h
  · cases h

/-- What a slice holds is what is read of it. -/
theorem srcL_ok (ok : Ok T.gl c) {u : A} {y : Value} {sz m : Nat} {news : List A} (h : loudOp.srcL c.H sz u = some (m, news)) (hn : news.length = m * sz) (hr : R c.ρ c.own c.w u y) :
    (∀ w, (Builtin.lenOf y).run P w = .ok m w) ∧ ∃ vs, RL c.ρ c.own c.w news vs ∧ ∀ (j : Nat) (w' : World), j ≤ m → (∀ ad, w'.cell? ad = c.w.cell? ad) → (Builtin.firstCells sz j y).run P w' = .ok (vs.take (j * sz)).toArray w' := by
  have lie : ∀ (g off cap : Nat) (vs : List Value), y = .slice (some ⟨g, off, none⟩) m cap → RL c.ρ c.own c.w news vs → Lies c.w g off vs → (∀ w, (Builtin.lenOf y).run P w = .ok m w) ∧ ∃ vs, RL c.ρ c.own c.w news vs ∧ ∀ (j : Nat) (w' : World), j ≤ m → (∀ ad, w'.cell? ad = c.w.cell? ad) → (Builtin.firstCells sz j y).run P w' = .ok (vs.take (j * sz)).toArray w' := by
    intro g off cap vs hy h1 h2
    subst hy
    refine ⟨fun w => by simp [Builtin.lenOf], vs, h1, fun j w' hj hw => ?_⟩
    have hvl := h1.length
    have hjm : j * sz ≤ m * sz := Nat.mul_le_mul_right _ hj
    refine run_firstCells_some w' sz j ⟨g, off, none⟩ m cap _ (by rw [List.length_take]; omega) fun i v hv => ?_
    rw [Addr.add_lit, hw]
    exact h2.take _ i v hv
  unfold loudOp.srcL at h
  split at h
  · rename_i n cs
    simp only [Option.some.injEq, Prod.mk.injEq] at h
    obtain ⟨rfl, rfl⟩ := h
    simp only [R] at hr
    rcases hr with ⟨rfl, rfl, ad, cap, rfl⟩ | ⟨g, off, cap, xs, rfl, h0, h1, h2, h3, h4⟩
    · refine ⟨fun w => by simp [Builtin.lenOf], [], RL.nil, fun j w' hj _ => ?_⟩
      obtain rfl : j = 0 := by omega
      cases ad <;> simp [Builtin.firstCells, loadCells, loadCellsFrom]
    · exact lie g off cap xs rfl h3.open_ h4
  · simp only [Option.some.injEq, Prod.mk.injEq] at h
    obtain ⟨rfl, rfl⟩ := h
    simp only [R] at hr
    subst hr
    refine ⟨fun w => by simp [Builtin.lenOf], [], RL.nil, fun j w' hj _ => ?_⟩
    simp [Builtin.firstCells]
  · rename_i b off n s
    split at h
    · rename_i k hb
      split at h
      · rename_i hc
        simp only [Option.some.injEq, Prod.mk.injEq] at h
        obtain ⟨rfl, rfl⟩ := h
        obtain ⟨rfl, hc⟩ := hc
        simp only [R] at hr
        obtain ⟨g, cap, cur, e', hg, rfl, -, -, hcl, -⟩ := hr
        obtain ⟨cur1, xs, -, h2, h3, -⟩ := ok.lies hb hg ⟨cur, e', hcl⟩
        refine lie g off cap ((xs.drop off).take (n * s)) rfl ((h2.drop off).take _) ?_
        have := (h3.drop off).take (n * s)
        simpa using this
      · cases h
    · cases h
  · cases h

theorem run_append_in {t ty el : TypeId} {te : Ty} (hT : TOk P T) (hte : T el = some te) (ht : P.underlying t = some (.slice el)) {w : World} {y : Value} {m : Nat} {vs : List Value}
    (hl : ∀ w, (Builtin.lenOf y).run P w = .ok m w) (hf : (Builtin.firstCells te.size m y).run P w = .ok vs.toArray w) (hv : ∀ v ∈ vs, v.oneCell' = true)
    {g n cap : Nat} {cur : Array Value} {e : TypeId} (hcur : w.heap[g]? = some (.cells cur e (0, 0))) (hroom : n + m ≤ cap) (hfit : n * te.size + vs.length ≤ cur.size) :
    (Builtin.append_ #[t, t] ty #[.slice (some ⟨g, 0, none⟩) n cap, y]).run P w = .ok (.slice (some ⟨g, 0, none⟩) (n + m) cap) (w.setRow g (cur.toList.take (n * te.size) ++ vs ++ cur.toList.drop (n * te.size + vs.length)).toArray) := by
  have hst := run_storeCells_at P g (n * te.size) e vs 0 cur w hcur (by simpa using hfit) hv
  simp only [Nat.add_zero] at hst
  simp [Builtin.append_, run_underlying ht, (hT.facts hte).run_sizeOf, hl, hroom, hf, Addr.add_lit, hst]
theorem run_append_out {t ty el : TypeId} {te : Ty} (hT : TOk P T) (hte : T el = some te) (ht : P.underlying t = some (.slice el)) {w : World} {s y : Value} {m : Nat} {vs xs : List Value}
    (hl : ∀ w, (Builtin.lenOf y).run P w = .ok m w) (hf : (Builtin.firstCells te.size m y).run P w.drew = .ok vs.toArray w.drew)
    {base : Option Addr} {n cap : Nat} (hs : s = .slice base n cap) (hfs : (Builtin.firstCells te.size n s).run P w.drew = .ok xs.toArray w.drew) (hroom : cap < n + m) (h63 : n + m ≤ maxLen) (hby : (n + m) * te.bytes ≤ 2 ^ 47) :
    ∃ z : Value, (zeroValue el).run P w.drew = .ok z w.drew ∧ (Builtin.append_ #[t, t] ty #[s, y]).run P w = .ok (.slice (some ⟨w.heap.size, 0, none⟩) (n + m) (grownCap w (n + m) cap el)) (w.drew.alloc (.cells (xs.toArray ++ (vs.toArray ++ Builtin.zeroCells z.cells (grownCap w (n + m) cap el - (n + m)))) el)) := by
  obtain ⟨i, z, hi, his, hib, hz, -⟩ := (hT.facts hte).info
  have hzr : (zeroValue el).run P w.drew = .ok z w.drew := by simp [zeroValue, typeInfo, hi, hz]
  refine ⟨z, hzr, ?_⟩
  subst hs
  have h1 : ¬ (n + m ≤ cap) := by omega
  have hfit := growslice_fits (bytes := te.bytes) hroom (by simpa using hby)
  have h2 : ¬ (Builtin.nextslicecap (n + m) cap * i.bytes > 2 ^ 48) := by rw [hib]; omega
  have h3 : ¬ (((n + m : Nat) : Int) > IntKind.i64.max ∧ (False ∨ i.bytes = 0)) := by
    intro h
    have : (n + m : Int) ≤ 9223372036854775807 := by simp only [maxLen] at h63; omega
    have := h.1
    simp [IntKind.max, IntKind.signed, IntKind.bits] at this
    omega
  have hns : ¬ (281474976710656 < Builtin.nextslicecap (n + m) cap * i.bytes) := by simpa using h2
  have h63' : ¬ (9223372036854775807 < (n : Int) + m) := by simp only [maxLen] at h63; omega
  simp [Builtin.append_, run_underlying ht, (hT.facts hte).run_sizeOf, hl, h1, typeInfo, hi, hns, h63', hfs, hf, hzr, newRow, IntKind.max, IntKind.signed, IntKind.bits, Question.forced, grownCap]

theorem append_ok (hT : TOk P T) (ok : Ok T.gl c) (he : EnvR c e a) {cl : Call} (ho : o.op = .call cl) (hc : cl.callee = .builtin .append) (h : loudOp T e c.H (.call cl) = some (x, H')) : Makes T P c a o x H' := by
  simp only [loudOp, hc] at h
  have hx : execOp a.eval o = (do pure (.value (← Builtin.append_ cl.argTypes o.type (cl.args.map a.eval))) : Sem Next) := by simp [execOp, ho, resolve, hc, invoke, builtin]
  split at h
  · rename_i s u t t' hargs htys
    split at h
    · rename_i htt
      subst htt
      split at h
      · rename_i ty hty
        split at h
        · rename_i el hk
          split at h
          · rename_i te hte
            split at h
            · rename_i m news hsrc
              split at h
              · rename_i hcond
                obtain ⟨q1, q2, q3⟩ := hcond
                obtain ⟨d, hd, hkd⟩ := (hT.facts hty).desc
                rw [hk] at hkd
                obtain rfl := kOf_slice hkd
                have hrl := he.opnds hargs
                rw [RL] at hrl
                obtain ⟨y1, ys, hys, hr1, hr2⟩ := hrl
                obtain ⟨y2, rfl, hr3⟩ := hr2.single
                have hargs' : cl.args.map a.eval = #[y1, y2] := by
                  apply Array.ext'
                  simpa using hys
                have htys' : cl.argTypes = #[t, t] := by
                  apply Array.ext'
                  simpa using htys
                rw [hargs', htys'] at hx
                obtain ⟨hlen, vs, hvs, hfirst⟩ := srcL_ok (P := P) ok hsrc q1 hr3
                have hvl := hvs.length
                have hf0 := hfirst m c.w (Nat.le_refl _) (fun _ => rfl)
                have hf1 := hfirst m c.w.drew (Nat.le_refl _) (fun _ => rfl)
                have htk : vs.take (m * te.size) = vs := List.take_of_length_le (by omega)
                rw [htk] at hf0 hf1
                have hone := ones_ok hvs q3
                split at h
                · simp only [R] at hr1
                  subst hr1
                  split at h
                  · rename_i hm
                    subst hm
                    simp only [Option.some.injEq, Prod.mk.injEq] at h
                    obtain ⟨rfl, rfl⟩ := h
                    have hv0 : vs = [] := List.eq_nil_of_length_eq_zero (by rw [hvl, q1]; simp)
                    subst hv0
                    refine Makes.mk hx (y := .slice none 0 0) (c' := c) ?_ rfl (To.refl c) ok (by rw [R])
                    simp [Builtin.append_, run_underlying hd, (hT.facts hte).run_sizeOf, hlen, hf0]
                  · rename_i hm
                    split at h
                    · rename_i hb
                      simp only [Option.some.injEq, Prod.mk.injEq] at h
                      obtain ⟨rfl, rfl⟩ := h
                      obtain ⟨z, hz, hrun⟩ := run_append_out (ty := o.type) (s := .slice none 0 0) (xs := []) hT hte hd hlen hf1 rfl (by simp [Builtin.firstCells]) (by omega) (by simpa using hb.1) (by simpa using hb.2)
                      simp only [Nat.zero_add] at hrun
                      have hge := grownCap_ge c.w m 0 el
                      have hle := grownCap_le_maxLen c.w m 0 el hb.1
                      obtain ⟨z', hz', hzc⟩ := zero_cells' (hT.facts hte) c.w.drew
                      obtain rfl : z' = z := by rw [hz] at hz'; simpa [eq_comm] using hz'
                      obtain ⟨c', k1, k2, k3, k4, k5, -⟩ := newBlk (e := el) (wh := false) (cs := news) (xs := vs) ok (.inr rfl) hvs (cur := [].toArray ++ (vs.toArray ++ Builtin.zeroCells z'.cells (grownCap c.w m 0 el - m))) (by simp) (by simp)
                      refine Makes.mk hx (by rw [k2]; exact hrun) k1 k3 k4 ?_
                      rw [R]
                      refine ⟨c.w.heap.size, _, _, el, k5, rfl, hge, hle, by rw [k2]; exact heap_alloc_new c.w.drew _, ?_⟩
                      simp only [Array.size_append, List.size_toArray, List.length_nil, size_zeroCells, hzc, Nat.zero_add, hvl, q1, q2]
                      rw [← Nat.add_mul]
                      congr 1
                      omega
                    · cases h
                · rename_i b n sz
                  split at h
                  · rename_i k hb
                    split at h
                    · rename_i hcd
                      simp only [Option.some.injEq, Prod.mk.injEq] at h
                      obtain ⟨rfl, rfl⟩ := h
                      obtain ⟨rfl, rfl, d3, d4, d5⟩ := hcd
                      simp only [R] at hr1
                      obtain ⟨g, cap, cur0, e0, hg, rfl, hn, hcap, hcur0, hsum⟩ := hr1
                      obtain ⟨cur, xs, hcur, hxs, hlie, hpre, -⟩ := ok.lies hb hg ⟨cur0, e0, hcur0⟩
                      rw [hcur] at hcur0
                      simp only [Option.some.injEq, Obj.cells.injEq] at hcur0
                      obtain ⟨rfl, rfl, -⟩ := hcur0
                      have hxl := hxs.length
                      simp only [Nat.zero_add] at hsum
                      have hnew : RL c.ρ c.own c.w (k.cs.take (n * te.size) ++ news) (xs.take (n * te.size) ++ vs) := (hxs.take _).append hvs
                      by_cases hroom : n + m ≤ cap
                      · have hfit : n * te.size + vs.length ≤ cur.size := by
                          rw [hvl, q1, ← Nat.add_mul, ← hsum]
                          exact Nat.mul_le_mul_right _ hroom
                        have hrun := run_append_in (ty := o.type) hT hte hd hlen hf0 hone hcur hroom hfit
                        have hpre' : xs.take (n * te.size) = cur.toList.take (n * te.size) := by
                          obtain ⟨t', ht'⟩ := hpre
                          rw [← ht', List.take_append_of_le_length (by omega)]
                        rw [← hpre'] at hrun
                        obtain ⟨c', k1, k2, k3, k4, k5⟩ := moveBlk (xs' := xs.take (n * te.size) ++ vs) (cur' := (xs.take (n * te.size) ++ vs ++ cur.toList.drop (n * te.size + vs.length)).toArray) ok hb hg hcur hnew (by simp) (by
                          simp
                          omega)
                        refine Makes.mk hx (by rw [k2]; exact hrun) k1 k3 k4 ?_
                        rw [R]
                        refine ⟨g, cap, _, k.e, k5, rfl, hroom, hcap, by rw [k2]; exact setRow_heap c.w g cur _ k.e (0, 0) hcur, ?_⟩
                        simp
                        omega
                      · have hfs : (Builtin.firstCells te.size n (.slice (some ⟨g, 0, none⟩) n cap)).run P c.w.drew = .ok (xs.take (n * te.size)).toArray c.w.drew := by
                          refine run_firstCells_some c.w.drew te.size n ⟨g, 0, none⟩ n cap _ (by rw [List.length_take]; omega) fun i v hv => ?_
                          rw [Addr.add_lit]
                          exact hlie.take _ i v hv
                        obtain ⟨z, hz, hrun⟩ := run_append_out (ty := o.type) hT hte hd hlen hf1 rfl hfs (by omega) d4 d5
                        have hge := grownCap_ge c.w (n + m) cap k.e
                        have hle := grownCap_le_maxLen c.w (n + m) cap k.e d4
                        obtain ⟨z', hz', hzc⟩ := zero_cells' (hT.facts hte) c.w.drew
                        obtain rfl : z' = z := by rw [hz] at hz'; simpa [eq_comm] using hz'
                        obtain ⟨t1, o1⟩ := dropBlk ok b
                        obtain ⟨c', k1, k2, k3, k4, k5, -⟩ := newBlk (e := k.e) (wh := false) (cs := k.cs.take (n * te.size) ++ news) (xs := xs.take (n * te.size) ++ vs) o1 (.inr rfl) hnew (cur := (xs.take (n * te.size)).toArray ++ (vs.toArray ++ Builtin.zeroCells z'.cells (grownCap c.w (n + m) cap k.e - (n + m)))) (by simp) (by simp)
                        refine Makes.mk hx (by rw [k2]; exact hrun) k1 (t1.trans k3) k4 ?_
                        rw [R]
                        refine ⟨c.w.heap.size, _, _, k.e, by simpa using k5, rfl, hge, hle, by rw [k2]; exact heap_alloc_new c.w.drew _, ?_⟩
                        have hx1 : min (n * te.size) xs.length = n * te.size := by omega
                        simp only [Array.size_append, List.size_toArray, List.length_take, size_zeroCells, hzc, Nat.zero_add, hvl, q1, q2, hx1]
                        rw [← Nat.add_mul, ← Nat.add_mul]
                        congr 1
                        omega
                    · cases h
                  · cases h
                · cases h
              · cases h
            · cases h
          · cases h
        · cases h
      · cases h
    · cases h
  · cases h
end
end Go.Proofs.Ytkpolehpdgnliaa.Ev
