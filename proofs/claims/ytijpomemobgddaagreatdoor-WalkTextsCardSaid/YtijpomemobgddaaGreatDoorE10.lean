/- The evaluator's quiet operations are the model's: literals of structs and arrays; lengths; all of them together. -/
import Derived.Test.YtijpomemobgddaaGreatDoorE9
import Derived.Lib.UnsafeStr
import Derived.MapKept
set_option linter.unusedSimpArgs false
set_option linter.unusedVariables false
namespace Go.Proofs.YtijpomemobgddaaGreatDoor.Ev
open Go Go.RowKit
variable {P : Program} {T : Tb}

theorem cellsA_ok {ρ : List Nat} {own : Nat → Prop} {w : World} {a : A} {y : Value} (h : R ρ own w a y) : RL ρ own w (cellsA a) y.cells.toList := by
  cases a with
  | agg cs =>
    simp only [R] at h
    obtain ⟨xs, rfl, h2⟩ := h
    simpa [cellsA, Value.cells] using h2
  | v x =>
    simp only [R] at h
    subst h
    cases y <;> first
      | (simp only [cellsA, Value.cells]; exact RL.cons (by rw [R]) RL.nil)
      | (simp only [cellsA, Value.cells]; exact RL.exact _)
  | tup vs =>
    have h' := h
    simp only [R] at h
    obtain ⟨xs, rfl, h2⟩ := h
    simp only [cellsA, Value.cells]
    exact RL.cons h' RL.nil
  | ptr b off =>
    have h' := h
    simp only [R] at h
    obtain ⟨g, -, rfl, -⟩ := h
    simp only [cellsA, Value.cells]
    exact RL.cons h' RL.nil
  | mp b =>
    have h' := h
    simp only [R] at h
    obtain ⟨g, -, rfl, -⟩ := h
    simp only [cellsA, Value.cells]
    exact RL.cons h' RL.nil
  | mf cs =>
    have h' := h
    simp only [R] at h
    rcases h with ⟨-, rfl⟩ | ⟨g, es, n, rfl, -⟩
    · simp only [cellsA, Value.cells]
      exact RL.cons h' RL.nil
    · simp only [cellsA, Value.cells]
      exact RL.cons h' RL.nil
  | ref b off len sz =>
    have h' := h
    simp only [R] at h
    obtain ⟨g, cap, cur, e, fz, -, rfl, -⟩ := h
    simp only [cellsA, Value.cells]
    exact RL.cons h' RL.nil
  | sl len cs =>
    have h' := h
    simp only [R] at h
    rcases h with ⟨-, -, ad, cap, rfl⟩ | ⟨g, off, cap, xs, rfl, -⟩
    · simp only [cellsA, Value.cells]
      exact RL.cons h' RL.nil
    · simp only [cellsA, Value.cells]
      exact RL.cons h' RL.nil
  | fp cs =>
    have h' := h
    simp only [R] at h
    obtain ⟨g, off, xs, rfl, -⟩ := h
    simp only [cellsA, Value.cells]
    exact RL.cons h' RL.nil
  | clo f fs caps =>
    have h' := h
    simp only [R] at h
    obtain ⟨xs, ys, rfl, -⟩ := h
    simp only [cellsA, Value.cells]
    exact RL.cons h' RL.nil
  | yl b =>
    have h' := h
    simp only [R] at h
    obtain ⟨g, -, rfl, -⟩ := h
    simp only [cellsA, Value.cells]
    exact RL.cons h' RL.nil
  | lrec nt ps sl a b =>
    rw [R] at h
    exact h.elim
  | it b =>
    have h' := h
    simp only [R] at h
    obtain ⟨g, -, rfl, -⟩ := h
    simp only [cellsA, Value.cells]
    exact RL.cons h' RL.nil
  | its s p =>
    rw [R] at h
    exact h.elim

theorem foldl_set_list : ∀ (vs : List Value) (k off : Nat) (cs : Array Value), off + k + vs.length ≤ cs.size →
    ((vs.zipIdx k).foldl (fun (cs : Array Value) (p : Value × Nat) => cs.setIfInBounds (off + p.2) p.1) cs).toList = cs.toList.take (off + k) ++ vs ++ cs.toList.drop (off + k + vs.length)
  | [], k, off, cs, _ => by simp
  | v :: vs, k, off, cs, h => by
    simp only [List.length_cons] at h
    rw [List.zipIdx_cons, List.foldl_cons]
    rw [foldl_set_list vs (k + 1) off (cs.setIfInBounds (off + k) v) (by simp; omega)]
    have := list_seg_step cs.toList (off + k) v vs (by simp; omega)
    simp only [Array.toList_setIfInBounds]
    rw [List.append_assoc, List.append_assoc] at this ⊢
    rw [show off + (k + 1) = off + k + 1 by omega]
    rw [this]
    simp [Nat.add_assoc, Nat.add_comm 1]

theorem fill_ok {ρ : List Nat} {own : Nat → Prop} {w : World} (place : Nat → Option (Nat × Nat)) : ∀ (ps : List (Nat × A)) (vs : List (Nat × Value)) (cs : List A) (xs : List Value) (r : List A),
    fillA place cs ps = some r → RL ρ own w cs xs → ps.map (·.1) = vs.map (·.1) → (∀ (i : Nat) p v, ps[i]? = some p → vs[i]? = some v → R ρ own w p.2 v.2) →
    ∃ ys : List Value, Instr.fill place xs.toArray vs = some ys.toArray ∧ RL ρ own w r ys
  | [], [], cs, xs, r, h, hx, _, _ => by
    simp [fillA] at h
    subst h
    exact ⟨xs, by simp [Instr.fill], hx⟩
  | [], _ :: _, _, _, _, _, _, hm, _ => by simp at hm
  | _ :: _, [], _, _, _, _, _, hm, _ => by simp at hm
  | (i, z) :: ps, (j, v) :: vs, cs, xs, r, h, hx, hm, hr => by
    simp only [List.map_cons, List.cons.injEq] at hm
    obtain ⟨rfl, hm⟩ := hm
    unfold fillA at h
    cases hp : place i with
    | none => simp [hp] at h
    | some os =>
      obtain ⟨off, size⟩ := os
      simp only [hp] at h
      split at h
      · rename_i hc
        have hz := cellsA_ok (hr 0 (i, z) (i, v) rfl rfl)
        have hlen : v.cells.size = size := by
          have := hz.length
          simp only [Array.length_toList] at this
          omega
        have hxl := hx.length
        have hx' : RL ρ own w (cs.take off ++ cellsA z ++ cs.drop (off + size)) (xs.take off ++ v.cells.toList ++ xs.drop (off + size)) := ((hx.take off).append hz).append (hx.drop _)
        obtain ⟨ys, h1, h2⟩ := fill_ok place ps vs _ _ r h hx' hm (fun k p v hp hv => hr (k + 1) p v (by simpa using hp) (by simpa using hv))
        refine ⟨ys, ?_, h2⟩
        have hsz : (decide (v.cells.size ≠ size) || decide (off + v.cells.size > xs.toArray.size)) = false := by simp; omega
        simp only [Instr.fill, hp, hsz, Bool.false_eq_true, if_false]
        rw [← h1]
        congr 1
        apply Array.ext'
        rw [← Array.foldl_toList, Array.toList_zipIdx]
        rw [foldl_set_list v.cells.toList 0 off xs.toArray (by simp; omega)]
        simp [hlen]
      · cases h

section
variable {c : Cfg} {e : Env} {a : Act} {o : Oper} {x : A}
theorem partsA_ok (he : EnvR c e a) : ∀ {l : List (Nat × Operand)} {ps : List (Nat × A)}, partsA e l = some ps → ps.map (·.1) = (l.map fun p => (p.1, a.eval p.2)).map (·.1) ∧ ∀ (i : Nat) p v, ps[i]? = some p → (l.map fun p => (p.1, a.eval p.2))[i]? = some v → R c.ρ c.own c.w p.2 v.2
  | [], ps, h => by
    simp [partsA] at h
    subst h
    exact ⟨rfl, fun i p v h => by simp at h⟩
  | (i, q) :: l, ps, h => by
    unfold partsA at h
    cases h1 : opnd e q with
    | none => simp [h1] at h
    | some z =>
      cases h2 : partsA e l with
      | none => simp [h1, h2] at h
      | some ps' =>
        simp only [h1, h2, Option.some.injEq] at h
        subst h
        obtain ⟨h3, h4⟩ := partsA_ok he h2
        refine ⟨by simpa using h3, fun k p v hp hv => ?_⟩
        cases k with
        | zero =>
          simp at hp hv
          subst hp hv
          exact he.opnd h1
        | succ k => exact h4 k p v (by simpa using hp) (by simpa using hv)

theorem zero_cells {t : TypeId} {ty : Ty} (F : TyFacts P t ty) : ∃ i z, P.info? t = some i ∧ i.size = ty.size ∧ i.zero = some z ∧ z.cells = ty.zero.toArray := by
  obtain ⟨i, z, h1, h2, h3, h4, h5⟩ := F.info
  obtain ⟨z', h6, h7, -⟩ := F.zero (default : World)
  simp only [zeroValue, Sem.run_bind, typeInfo, run_program, h1, Result.andThen_ok, Sem.run_pure, h4, Result.ok.injEq, and_true] at h6
  subst h6
  exact ⟨i, z, h1, h2, h4, by rw [← h7]⟩

theorem places_ok (hT : TOk P T) : ∀ (fds : List Field) (l : List (Nat × Nat)), placesOf T (fds.map fun f => (f.type, f.offset, f.name != "_")) = some l → fds.mapM (fun f => (P.info? f.type).map fun i => (f.offset, i.size)) = some l
  | [], l, h => by simp [placesOf] at h; subst h; simp
  | f :: fds, l, h => by
    simp only [List.map_cons] at h
    unfold placesOf at h
    cases h1 : T f.type with
    | none => simp [h1] at h
    | some ty =>
      cases h2 : placesOf T (fds.map fun f => (f.type, f.offset, f.name != "_")) with
      | none => simp [h1, h2] at h
      | some l' =>
        simp only [h1, h2, Option.some.injEq] at h
        subst h
        obtain ⟨i, z, h3, h4, -⟩ := zero_cells (hT.facts h1)
        simp [List.mapM_cons, h3, h4, places_ok hT fds l' h2]

theorem build_ok (hT : TOk P T) (he : EnvR c e a) {t : TypeId} {ps : Array (Nat × Operand)} (ho : o.op = .build t ps) (h : quietOp T e c.H (.build t ps) = some x) : Gives P c a o x := by
  simp only [quietOp] at h
  have hx : execOp a.eval o = (do pure (.value (← Instr.build t (ps.map fun (i, x) => (i, a.eval x)))) : Sem Next) := by simp only [execOp, ho]
  split at h
  · rename_i ty qs hty hq
    obtain ⟨h1, h2⟩ := partsA_ok he hq
    obtain ⟨i, z, hi, his, hz, hzc⟩ := zero_cells (hT.facts hty)
    obtain ⟨d, hd, hkd⟩ := (hT.facts hty).desc
    have hzero : RL c.ρ c.own c.w (ty.zero.map .v) ty.zero := RL.exact _
    have hlist : (ps.map fun (i, x) => (i, a.eval x)).toList = ps.toList.map fun p => (p.1, a.eval p.2) := by simp
    split at h
    · rename_i fs hk
      rw [hk] at hkd
      obtain ⟨fds, rfl, hfs⟩ := kOf_struct hkd
      split at h
      · rename_i l hl
        cases hf : fillA (fun i => l[i]?) (ty.zero.map .v) qs with
        | none => simp [hf] at h
        | some r =>
          simp only [hf, Option.map_some, Option.some.injEq] at h
          subst h
          obtain ⟨ys, h3, h4⟩ := fill_ok (fun i => l[i]?) qs _ _ _ r hf hzero h1 h2
          refine Gives.mk hx (y := .agg ys.toArray) (run_build c.w t _ ys.toArray ?_) (by rw [R]; exact ⟨ys, rfl, h4⟩)
          rw [hlist]
          subst hfs
          have := places_ok hT fds.toList l hl
          simp only [Program.built, hi, hd, hz, this, hzc]
          rw [← h3]
          congr 1
          funext i
          simp
      · cases h
    · rename_i n el hk
      rw [hk] at hkd
      obtain rfl := kOf_array hkd
      split at h
      · rename_i te hte
        obtain ⟨ie, ze, hie, hies, -⟩ := zero_cells (hT.facts hte)
        cases hf : fillA (fun i => some (i * te.size, te.size)) (ty.zero.map .v) qs with
        | none => simp [hf] at h
        | some r =>
          simp only [hf, Option.map_some, Option.some.injEq] at h
          subst h
          obtain ⟨ys, h3, h4⟩ := fill_ok _ qs _ _ _ r hf hzero h1 h2
          refine Gives.mk hx (y := .agg ys.toArray) (run_build c.w t _ ys.toArray ?_) (by rw [R]; exact ⟨ys, rfl, h4⟩)
          rw [hlist]
          simp only [Program.built, hi, hd, hz, hie, hies, hzc]
          exact h3
      · cases h
    · cases h
  · cases h

theorem minA_ok (mx : Bool) {ρ : List Nat} {own : Nat → Prop} {w : World} : ∀ (l : List A) (x r : A) (y : Value) (ys : List Value), quietOp.minA mx x l = some r → R ρ own w x y → RL ρ own w l ys →
    ∃ z, (ys.foldlM (if mx then Builtin.max2 else Builtin.min2) y).run P w = .ok z w ∧ R ρ own w r z
  | [], x, r, y, ys, h, hx, hl => by
    rw [RL] at hl
    subst hl
    simp [quietOp.minA] at h
    subst h
    exact ⟨y, by simp, hx⟩
  | u :: l, x, r, y, ys, h, hx, hl => by
    rw [RL] at hl
    obtain ⟨v, vs, rfl, h1, h2⟩ := hl
    unfold quietOp.minA at h
    split at h
    · rename_i k p k' q
      simp only [R] at hx h1
      subst hx h1
      obtain ⟨z, h3, h4⟩ := minA_ok mx l _ r _ vs h (by rw [R]) h2
      refine ⟨z, ?_, h4⟩
      rw [List.foldlM_cons, Sem.run_bind]
      cases mx
      · simpa [Builtin.min2] using h3
      · simpa [Builtin.max2] using h3
    · cases h

theorem call_ok (hT : TOk P T) (he : EnvR c e a) {cl : Call} (ho : o.op = .call cl) (h : quietOp T e c.H (.call cl) = some x) : Gives P c a o x := by
  simp only [quietOp] at h
  split at h
  · rename_i hc
    have hx : execOp a.eval o = (do pure (.value (← Builtin.len_ cl.argTypes o.type (cl.args.map a.eval))) : Sem Next) := by simp [execOp, ho, resolve, hc, invoke, builtin]
    split at h
    · rename_i u ty hu hty
      cases ht : cl.argTypes[0]? with
      | none => simp [ht] at hty
      | some t =>
        simp only [ht, Option.bind_some] at hty
        obtain ⟨d, hd, hkd⟩ := (hT.facts hty).desc
        obtain ⟨y, hy, hr⟩ := (he.opnds hu).single
        have hargs : (cl.args.map a.eval)[0]? = some y := by
          have : (cl.args.map a.eval).toList[0]? = some y := by simp [hy]
          simpa using this
        have hrun : ∀ z, (match d, y with
            | .string, .string s => pure (goInt s.size)
            | .array n _, _ => pure (goInt n)
            | .slice _, .slice _ n _ => pure (goInt n)
            | _, _ => stuck "" : Sem Value).run P c.w = .ok z c.w → (Builtin.len_ cl.argTypes o.type (cl.args.map a.eval)).run P c.w = .ok z c.w := by
          intro z hz
          unfold Builtin.len_
          simp only [ht, hargs, Sem.run_bind, run_underlying hd, Result.andThen_ok]
          cases d <;> cases y <;> first
            | (simp at hz; done)
            | exact hz
        split at h
        · rename_i hk
          rw [hk] at hkd
          obtain rfl := kOf_str hkd
          split at h
          · obtain rfl := Option.some.inj h
            simp only [R] at hr
            subst hr
            exact Gives.mk hx (hrun _ rfl) (by rw [R]; rfl)
          · cases h
        · rename_i n el hk
          obtain rfl := Option.some.inj h
          rw [hk] at hkd
          obtain rfl := kOf_array hkd
          exact Gives.mk hx (hrun (goInt n) (by cases y <;> rfl)) (by rw [R]; rfl)
        · rename_i el hk
          rw [hk] at hkd
          obtain rfl := kOf_slice hkd
          split at h
          · obtain rfl := Option.some.inj h
            simp only [R] at hr
            obtain ⟨g, cap, cur, e', fz, -, rfl, -⟩ := hr
            exact Gives.mk hx (hrun _ rfl) (by rw [R]; rfl)
          · obtain rfl := Option.some.inj h
            simp only [R] at hr
            rcases hr with ⟨rfl, -, ad, cap, rfl⟩ | ⟨g, off, cap, xs, rfl, -⟩
            · exact Gives.mk hx (hrun _ rfl) (by rw [R]; rfl)
            · exact Gives.mk hx (hrun _ rfl) (by rw [R]; rfl)
          · obtain rfl := Option.some.inj h
            simp only [R] at hr
            subst hr
            exact Gives.mk hx (hrun _ rfl) (by rw [R]; rfl)
          · cases h
        · cases h
    · cases h
  · rename_i hc
    have hx : execOp a.eval o = (do pure (.value (← Builtin.min_ cl.argTypes o.type (cl.args.map a.eval))) : Sem Next) := by simp [execOp, ho, resolve, hc, invoke, builtin]
    split at h
    · rename_i u l hu
      have hl := he.opnds hu
      rw [RL] at hl
      obtain ⟨y, ys, hy, h1, h2⟩ := hl
      obtain ⟨z, h3, h4⟩ := minA_ok (P := P) false l u x y ys h h1 h2
      refine Gives.mk hx (y := z) ?_ h4
      have : (cl.args.map a.eval).toList = y :: ys := by simpa using hy
      unfold Builtin.min_
      rw [this]
      simpa using h3
    · cases h
  · rename_i hc
    have hx : execOp a.eval o = (do pure (.value (← Builtin.cap_ cl.argTypes o.type (cl.args.map a.eval))) : Sem Next) := by simp [execOp, ho, resolve, hc, invoke, builtin]
    split at h
    · rename_i l0 n0 ty hu hty
      cases ht : cl.argTypes[0]? with
      | none => simp [ht] at hty
      | some t =>
        simp only [ht, Option.bind_some] at hty
        obtain ⟨d, hd, hkd⟩ := (hT.facts hty).desc
        obtain ⟨y, hy, hr⟩ := (he.opnds hu).single
        rw [R] at hr
        subst hr
        have hargs : (cl.args.map a.eval)[0]? = some (.slice none l0 n0) := by
          have : (cl.args.map a.eval).toList[0]? = some (.slice none l0 n0) := by simp [hy]
          simpa using this
        split at h
        · rename_i el hk
          rw [hk] at hkd
          obtain rfl := kOf_slice hkd
          obtain rfl := Option.some.inj h
          refine Gives.mk hx (y := .int .i64 n0) ?_ (by rw [R])
          unfold Builtin.cap_
          simp only [ht, hargs, Sem.run_bind, run_underlying hd, Result.andThen_ok, Sem.run_pure]
          rfl
        · cases h
    · cases h
  · rename_i hc
    have hx : execOp a.eval o = (do pure (.value (← Builtin.unsafeSliceData_ cl.argTypes o.type (cl.args.map a.eval))) : Sem Next) := by simp [execOp, ho, resolve, hc, invoke, builtin]
    split at h
    · rename_i l0 n0 hu
      have hl := he.opnds hu
      rw [RL] at hl
      obtain ⟨y, ys, hy, h1, h2⟩ := hl
      rw [RL] at h2
      subst h2
      rw [R] at h1
      subst h1
      obtain rfl := Option.some.inj h
      have hargs : cl.args.map a.eval = #[.slice none l0 n0] := by
        apply Array.ext'
        simpa using hy
      rw [hargs] at hx
      exact Gives.mk hx (y := .pointer none) rfl (by rw [R])
    · rename_i b0 off0 n0 s0 hu
      have hl := he.opnds hu
      rw [RL] at hl
      obtain ⟨y, ys, hy, h1, h2⟩ := hl
      rw [RL] at h2
      subst h2
      rw [R] at h1
      obtain ⟨g, cap, cur, e', fz, hg, rfl, hn, -, hcl, -⟩ := h1
      obtain rfl := Option.some.inj h
      have hargs : cl.args.map a.eval = #[.slice (some ⟨g, off0, none⟩) (n0 + 1) cap] := by
        apply Array.ext'
        simpa using hy
      rw [hargs] at hx
      exact Gives.mk hx (y := .pointer (some ⟨g, off0, none⟩)) (Lib.run_unsafeSliceData_row c.w _ _ _ _ _ (by omega)) (by rw [R]; exact ⟨g, hg, rfl, cur, e', fz, hcl⟩)
    · cases h
  · rename_i hc
    have hx : execOp a.eval o = (do pure (.value (← Builtin.max_ cl.argTypes o.type (cl.args.map a.eval))) : Sem Next) := by simp [execOp, ho, resolve, hc, invoke, builtin]
    split at h
    · rename_i u l hu
      have hl := he.opnds hu
      rw [RL] at hl
      obtain ⟨y, ys, hy, h1, h2⟩ := hl
      obtain ⟨z, h3, h4⟩ := minA_ok (P := P) true l u x y ys h h1 h2
      refine Gives.mk hx (y := z) ?_ h4
      have : (cl.args.map a.eval).toList = y :: ys := by simpa using hy
      unfold Builtin.max_
      rw [this]
      simpa using h3
    · cases h
  · cases h

theorem kOf_bool {d : TypeDesc} (h : kOf d = .bool) : d = .bool := by cases d <;> first | rfl | (simp [kOf] at h; done)
theorem kOf_map {d : TypeDesc} {k e : TypeId} (h : kOf d = .map k e) : d = .map k e := by
  cases d <;> first
    | (simp only [kOf, K.map.injEq] at h; obtain ⟨rfl, rfl⟩ := h; rfl)
    | (simp [kOf] at h; done)
theorem bytes_eq {a b : ByteArray} (h : (a == b) = true) : a = b := by
  cases a with | mk a => cases b with | mk b =>
  have : (a == b) = true := h
  rw [eq_of_beq this]
theorem isKey_same {d : TypeDesc} {kd : K} (hd : kOf d = kd) {x y : Value} (hx : isKey kd x = true) (hy : isKey kd y = true) : Instr.sameNow d x y = some (keySame x y) ∧ (keySame x y = true → x = y) := by
  subst hd
  cases d <;> cases x <;> first
    | (simp [kOf, isKey] at hx; done)
    | (cases y <;> first
        | (simp [kOf, isKey] at hy; done)
        | (simp only [kOf, isKey, decide_eq_true_eq] at hx hy
           subst hx
           subst hy
           refine ⟨by simp [Instr.sameNow, keySame], fun h => ?_⟩
           have h := eq_of_beq h
           subst h
           rfl)
        | (refine ⟨by simp [Instr.sameNow, keySame], fun h => ?_⟩
           have h := eq_of_beq h
           subst h
           rfl)
        | exact ⟨rfl, fun h => congrArg Value.string (bytes_eq h)⟩)
theorem isKey_check {t : TypeId} {d : TypeDesc} (hd : P.underlying t = some d) {kd : K} (hk : kOf d = kd) {x : Value} (hx : isKey kd x = true) (b : Bool) (w : World) (n : Nat) : (Instr.checkKey b (n + 1) t x).run P w = .ok () w := by
  subst hk
  unfold Instr.checkKey
  simp only [Sem.run_bind, run_underlying hd, Result.andThen_ok]
  cases d <;> cases x <;> first
    | (simp [kOf, isKey] at hx; done)
    | rfl
theorem flatE_cons (e0 : MapEntry) (es : List MapEntry) : flatE (e0 :: es) = e0.key :: e0.val :: flatE es := by simp [flatE]
theorem findA_ok {d : TypeDesc} {kd : K} (hd : kOf d = kd) {key : Value} (hk : isKey kd key = true) {ρ : List Nat} {own : Nat → Prop} {w : World} : ∀ (es : List MapEntry) (cs : List A) (i : Nat) (r : Option (Nat × A)), findA kd key cs i = some r → RL ρ own w cs (flatE es) →
    (r = none ∧ Instr.findNow d key es i = some none) ∨ ∃ k a e, r = some (i + k, a) ∧ Instr.findNow d key es i = some (some (i + k, e.val)) ∧ es[k]? = some e ∧ R ρ own w a e.val ∧ e.key = key := by
  intro es
  induction es with
  | nil =>
    intro cs i r h hr
    have hl := hr.length
    cases cs with
    | nil =>
      simp only [findA, Option.some.injEq] at h
      exact .inl ⟨h.symm, rfl⟩
    | cons _ _ => simp [flatE] at hl
  | cons e0 es ih =>
    intro cs i r h hr
    rw [flatE_cons] at hr
    cases cs with
    | nil => rw [RL] at hr; cases hr
    | cons z cs =>
      cases cs with
      | nil =>
        have hl := hr.length
        simp at hl
      | cons a0 cs =>
        rw [RL] at hr
        obtain ⟨_, _, h0, h1, hr⟩ := hr
        injection h0 with h01 h02
        subst h01
        subst h02
        rw [RL] at hr
        obtain ⟨_, _, h0, h2, hr⟩ := hr
        injection h0 with h01 h02
        subst h01
        subst h02
        cases z with
        | v z =>
          rw [R] at h1
          unfold findA at h
          split at h
          · rename_i hz
            obtain ⟨h3, h4⟩ := isKey_same hd hk hz
            rw [← h1] at h3 h4
            split at h
            · rename_i hs
              simp only [Option.some.injEq] at h
              subst h
              rw [← h1] at hs
              rw [hs] at h3
              refine .inr ⟨0, a0, e0, rfl, ?_, rfl, h2, (h4 hs).symm⟩
              simp [Instr.findNow, h3]
            · rename_i hs
              rw [← h1] at hs
              simp only [Bool.not_eq_true] at hs
              rw [hs] at h3
              rcases ih cs (i + 1) r h hr with ⟨k1, k2⟩ | ⟨k, a, e, k1, k2, k3, k4⟩
              · exact .inl ⟨k1, by simp [Instr.findNow, h3, k2]⟩
              · refine .inr ⟨k + 1, a, e, by rw [k1]; congr 2; omega, ?_, by simpa using k3, k4⟩
                simp only [Instr.findNow, h3, k2]
                congr 3
                omega
          · cases h
        | _ => simp [findA] at h
theorem run_findKey {t : TypeId} {d : TypeDesc} (hd : P.underlying t = some d) {key : Value} {es : List MapEntry} {r : Option (Nat × Value)} (h : Instr.findNow d key es 0 = some r) (w : World) : (Instr.findKey t key es).run P w = .ok r w := by
  simp [Instr.findKey, run_underlying hd, h]
theorem entriesA_ok (ok : Ok T.gl c) {m : A} {y : Value} {cs : List A} (h : entriesA c.H m = some cs) (hr : R c.ρ c.own c.w m y) : (cs = [] ∧ y = .map none) ∨ ∃ g es n, y = .map (some g) ∧ c.w.heap[g]? = some (.map es n) ∧ RL c.ρ c.own c.w cs (flatE es.toList) := by
  unfold entriesA at h
  split at h
  · simp only [Option.some.injEq] at h
    subst h
    rw [R] at hr
    rcases hr with ⟨rfl, rfl⟩ | ⟨g, es, n, rfl, -, -, h3, h4⟩
    · exact .inl ⟨rfl, rfl⟩
    · exact .inr ⟨g, es, n, rfl, h3, h4.open_⟩
  · simp only [Option.some.injEq] at h
    subst h
    rw [R] at hr
    exact .inl ⟨rfl, hr⟩
  · split at h
    · rename_i k hb
      simp only [Option.some.injEq] at h
      subst h
      rw [R] at hr
      obtain ⟨g, hg, rfl, es, n, hm⟩ := hr
      rcases ok.blk _ k.e k.cs k.whole g hb hg with ⟨cur, xs, h1, -⟩ | ⟨es', n', h1, h2, -⟩ | ⟨r', nt', ps', sl', a', b', rest', h1, -⟩ | ⟨s', p', h1, -⟩
      · rw [hm] at h1
        cases h1
      · exact .inr ⟨g, es', n', rfl, h1, h2⟩
      · rw [hm] at h1
        cases h1
      · rw [hm] at h1
        cases h1
    · cases h
  · cases h
theorem zeroA_ok {t : TypeId} {ty : Ty} (F : TyFacts P t ty) {z : A} (h : zeroA ty = some z) (w : World) {ρ : List Nat} {own : Nat → Prop} {w0 : World} : ∃ y, (zeroValue t).run P w = .ok y w ∧ R ρ own w0 z y := by
  obtain ⟨y, h1, h2, h3⟩ := F.zero w
  refine ⟨y, h1, ?_⟩
  unfold zeroA at h
  split at h
  · rename_i ha
    simp only [Option.some.injEq] at h
    subst h
    rw [h3 ha, R]
    exact ⟨ty.zero, rfl, RL.exact _⟩
  · rename_i ha
    split at h
    · rename_i z0 hz
      simp only [Option.some.injEq] at h
      subst h
      rw [R]
      obtain ⟨i, zz, k1, k2, k3, k4, k5⟩ := F.info
      simp only [zeroValue, typeInfo, Sem.run_bind, run_program, k1, Result.andThen_ok, Sem.run_pure, k4, Result.ok.injEq, and_true] at h1
      subst h1
      unfold zeroOf at k5
      split at k5
      · simp [ha] at k5
      · simp only [ha, Bool.false_eq_true, if_false, Option.some.injEq] at k5
        rw [hz] at k5
        simpa using k5
    · cases h
theorem allV_ok {ρ : List Nat} {own : Nat → Prop} {w : World} : ∀ {cs : List A} {r ys : List Value}, allV cs = some r → RL ρ own w cs ys → ys = r
  | [], r, ys, h, hr => by
    rw [RL] at hr
    simp only [allV, Option.some.injEq] at h
    rw [hr, h]
  | c0 :: cs, r, ys, h, hr => by
    rw [RL] at hr
    obtain ⟨y, zs, rfl, h1, h2⟩ := hr
    unfold allV at h
    split at h
    · rename_i heq
      cases heq
    · rename_i x l heq
      injection heq with e1 e2
      subst e1
      subst e2
      rw [Option.map_eq_some_iff] at h
      obtain ⟨r', h3, rfl⟩ := h
      rw [R] at h1
      rw [h1, allV_ok h3 h2]
    · cases h
theorem keyA_ok {ρ : List Nat} {own : Nat → Prop} {w : World} {a : A} {x y : Value} (h : keyA a = some x) (hr : R ρ own w a y) : y = x := by
  cases a with
  | v z =>
    rw [R] at hr
    exact hr.trans (Option.some.inj h)
  | agg cs =>
    simp only [keyA, Option.map_eq_some_iff] at h
    obtain ⟨r, h1, rfl⟩ := h
    rw [R] at hr
    obtain ⟨xs, rfl, h2⟩ := hr
    rw [allV_ok h1 h2]
  | _ => simp [keyA] at h
theorem intsK_at {k : IntKind} : ∀ {xs : List Value}, intsK k xs = true → ∀ (i : Nat) x, xs[i]? = some x → ∃ z, x = .int k z
  | [], _, i, x, h => by simp at h
  | y :: l, h, i, x, hx => by
    unfold intsK at h
    split at h
    · rename_i heq
      cases heq
    · rename_i k' z l' heq
      injection heq with e1 e2
      subst e1
      subst e2
      simp only [Bool.and_eq_true, decide_eq_true_eq] at h
      obtain ⟨rfl, h⟩ := h
      cases i with
      | zero => simp at hx; exact ⟨z, hx.symm⟩
      | succ i => exact intsK_at h i x (by simpa using hx)
    · cases h
theorem keyOk_check (hT : TOk P T) {kt : TypeId} {tk : Ty} (ht : T kt = some tk) {x : Value} (h : keyOk T tk x = true) (b : Bool) (w : World) : (Instr.checkKey b 10000 kt x).run P w = .ok () w := by
  obtain ⟨d, hd, hd1⟩ := (hT.facts ht).desc
  unfold keyOk at h
  simp only [Bool.or_eq_true] at h
  rcases h with h | h
  · exact isKey_check hd hd1 h b w 9999
  · split at h
    · rename_i n el xs hk
      split at h
      · rename_i te hte
        split at h
        · rename_i k hk2
          simp only [Bool.and_eq_true] at h
          obtain ⟨h1, h2, h3⟩ := h
          have h1 := Nat.eq_of_beq_eq_true h1
          have h2 := Nat.eq_of_beq_eq_true h2
          rw [hk] at hd1
          obtain rfl := kOf_array hd1
          obtain ⟨d2, hd2, hd3⟩ := (hT.facts hte).desc
          rw [show (10000 : Nat) = 9999 + 1 from rfl, Instr.checkKey]
          simp only [Sem.run_bind, run_underlying hd, Result.andThen_ok]
          simp only [Std.Legacy.Range.forIn_eq_forIn_range', Std.Legacy.Range.size, Nat.sub_zero, Nat.add_one_sub_one, Nat.div_one]
          have each : ∀ i ∈ List.range' 0 n, ∃ z, (part el xs (i * te.size)).run P w = .ok (.int k z) w := by
            intro i hi
            have hi : i < n := by simpa using hi
            have hix : i < xs.toList.length := by simpa [h2] using hi
            obtain ⟨z, hz⟩ := intsK_at h3 i xs.toList[i] (by simp [hi, h2])
            obtain ⟨y, hy, hry⟩ := run_part (hT.facts hte) (w := w) (ρ := []) (own := fun _ => False) (off := i * te.size) (cs := xs.toList.map A.v) (xs := xs.toList) (x := .v (.int k z)) (by
              unfold partA
              rw [h1, Nat.mul_one, if_pos (by simp; omega), hk2]
              simp only [K.agg, Bool.false_eq_true, if_false, if_true]
              rw [List.getElem?_map, List.getElem?_eq_getElem hix, hz]
              rfl) (RL.exact _)
            rw [R] at hry
            subst hry
            exact ⟨z, by simpa using hy⟩
          generalize List.range' 0 n = is at each
          induction is with
          | nil => simp
          | cons j is ih =>
            obtain ⟨z, hz⟩ := each j (by simp)
            have p2 := isKey_check (P := P) hd2 hd3 (x := .int k z) (by rw [hk2]; simp [isKey]) b w 9998
            simp only [List.forIn_cons, Sem.run_bind, (hT.facts hte).run_sizeOf w, Result.andThen_ok, hz, p2, Sem.run_pure]
            exact ih (fun y hy => each y (by simp [hy]))
        · cases h
      · cases h
    · cases h
theorem findB_ok (hT : TOk P T) {kt : TypeId} {tk : Ty} (ht : T kt = some tk) (hag : tk.k.agg = true) {xs : List Value} {ρ : List Nat} {own : Nat → Prop} {w : World} : ∀ (es : List MapEntry) (cs : List A) (i : Nat) (r : Option (Nat × A)), findB T kt (xs.map .v) cs i = some r → RL ρ own w cs (flatE es) →
    (r = none ∧ ∀ w', (Instr.findAsking kt (.agg xs.toArray) es i).run P w' = .ok none w') ∨ ∃ k a e, r = some (i + k, a) ∧ (∀ w', (Instr.findAsking kt (.agg xs.toArray) es i).run P w' = .ok (some (i + k, e.val)) w') ∧ es[k]? = some e ∧ R ρ own w a e.val := by
  intro es
  induction es with
  | nil =>
    intro cs i r h hr
    have hl := hr.length
    cases cs with
    | nil =>
      simp only [findB, Option.some.injEq] at h
      exact .inl ⟨h.symm, fun w' => by simp [Instr.findAsking]⟩
    | cons _ _ => simp [flatE] at hl
  | cons e0 es ih =>
    intro cs i r h hr
    rw [flatE_cons] at hr
    cases cs with
    | nil => rw [RL] at hr; cases hr
    | cons z cs =>
      cases cs with
      | nil =>
        have hl := hr.length
        simp at hl
      | cons a0 cs =>
        rw [RL] at hr
        obtain ⟨_, _, h0, h1, hr⟩ := hr
        injection h0 with h01 h02
        subst h01
        subst h02
        rw [RL] at hr
        obtain ⟨_, _, h0, h2, hr⟩ := hr
        injection h0 with h01 h02
        subst h01
        subst h02
        cases z with
        | v z =>
          cases z with
          | agg ys =>
            simp only [findB] at h
            rw [R] at h1
            have heq : ∀ b, eqT T 20 kt (xs.map .v) (ys.toList.map .v) = some b → ∀ w', (Op.equal kt (.agg xs.toArray) e0.key).run P w' = .ok b w' := fun b hb w' => by
              rw [h1]
              have := eqT_ok (w := w') (ρ := []) (own := fun _ => False) hT 20 Op.maxDepth kt tk (xs.map .v) (ys.toList.map .v) xs ys.toList (.agg xs.toArray) (.agg ys.toList.toArray) b (by decide) ht hb (RL.exact _) (RL.exact _) ⟨(fun _ => rfl), (fun h => by rw [hag] at h; cases h)⟩ ⟨(fun _ => rfl), (fun h => by rw [hag] at h; cases h)⟩
              simpa [Op.equal] using this
            split at h
            · rename_i hb
              simp only [Option.some.injEq] at h
              subst h
              refine .inr ⟨0, a0, e0, rfl, fun w' => ?_, rfl, h2⟩
              simp [Instr.findAsking, heq _ hb]
            · rename_i hb
              rcases ih cs (i + 1) r h hr with ⟨k1, k2⟩ | ⟨k, a, e, k1, k2, k3, k4⟩
              · exact .inl ⟨k1, fun w' => by simp [Instr.findAsking, heq _ hb, k2]⟩
              · refine .inr ⟨k + 1, a, e, by rw [k1]; congr 2; omega, fun w' => ?_, by simpa using k3, k4⟩
                simp only [Instr.findAsking, Sem.run_bind, heq _ hb, Result.andThen_ok, k2, Bool.false_eq_true, if_false]
                congr 3
                omega
            · cases h
          | _ => simp [findB] at h
        | _ => simp [findB] at h
theorem findK_ok (hT : TOk P T) {kt : TypeId} {tk : Ty} (ht : T kt = some tk) {key : Value} {ρ : List Nat} {own : Nat → Prop} {w : World} {es : List MapEntry} {cs : List A} {r : Option (Nat × A)} (h : findK T kt tk key cs = some r) (hr : RL ρ own w cs (flatE es)) :
    keyOk T tk key = true ∧ ((r = none ∧ ∀ w', (Instr.findKey kt key es).run P w' = .ok none w') ∨ ∃ k a e, r = some (k, a) ∧ (∀ w', (Instr.findKey kt key es).run P w' = .ok (some (k, e.val)) w') ∧ es[k]? = some e ∧ R ρ own w a e.val) := by
  obtain ⟨d, hd, hd1⟩ := (hT.facts ht).desc
  unfold findK at h
  cases hk : isKey tk.k key with
  | true =>
    rw [hk] at h
    simp only [cond_true] at h
    refine ⟨by simp [keyOk, hk], ?_⟩
    rcases findA_ok hd1 hk es cs 0 r h hr with ⟨h1, h2⟩ | ⟨k, a, e, h1, h2, h3, h4, -⟩
    · exact .inl ⟨h1, fun w' => run_findKey hd h2 w'⟩
    · simp only [Nat.zero_add] at h1 h2
      exact .inr ⟨k, a, e, h1, fun w' => run_findKey hd h2 w', h3, h4⟩
  | false =>
    rw [hk] at h
    simp only [cond_false] at h
    cases hko : keyOk T tk key with
    | false => simp [hko] at h
    | true =>
      rw [hko] at h
      simp only [cond_true] at h
      refine ⟨rfl, ?_⟩
      cases key with
      | agg xs =>
        simp only at h
        have hka : ∃ n el, tk.k = .array n el := by
          simp only [keyOk, hk, Bool.false_or] at hko
          split at hko
          · rename_i n el _ hkk _
            exact ⟨n, el, hkk⟩
          · cases hko
        obtain ⟨n, el, hka⟩ := hka
        rw [hka] at hd1
        obtain rfl := kOf_array hd1
        have hkey : ∀ r', (∀ w', (Instr.findAsking kt (.agg xs) es).run P w' = .ok r' w') → ∀ w', (Instr.findKey kt (.agg xs) es).run P w' = .ok r' w' := by
          intro r' hr' w'
          cases es with
          | nil =>
            have := hr' w'
            simp only [Instr.findAsking, Sem.run_pure, Result.ok.injEq] at this
            simp [Instr.findKey, run_underlying hd, Instr.findNow, this.1]
          | cons e0 es => simp [Instr.findKey, run_underlying hd, Instr.findNow, Instr.sameNow, hr' w']
        rcases findB_ok hT ht (by rw [hka]; rfl) es cs 0 r h hr with ⟨h1, h2⟩ | ⟨k, a, e, h1, h2, h3, h4⟩
        · exact .inl ⟨h1, hkey none h2⟩
        · simp only [Nat.zero_add] at h1 h2
          exact .inr ⟨k, a, e, h1, hkey _ h2, h3, h4⟩
      | _ => simp at h
theorem lookup_ok (hT : TOk P T) (ok : Ok T.gl c) (he : EnvR c e a) {t : TypeId} {m k : Operand} {okk : Bool} (ho : o.op = .lookup t m k okk) (h : quietOp T e c.H (.lookup t m k okk) = some x) : Gives P c a o x := by
  simp only [quietOp] at h
  have hx : execOp a.eval o = (do pure (.value (← Instr.lookup t (a.eval m) (a.eval k) okk)) : Sem Next) := by simp only [execOp, ho]
  split at h
  · rename_i ty mv key hty hm hk
    split at h
    · rename_i kt et hkd
      split at h
      · rename_i tk te es htk hte hes
        obtain ⟨d, hd, hd1⟩ := (hT.facts hty).desc
        rw [hkd] at hd1
        obtain rfl := kOf_map hd1
        obtain ⟨kv, hk1, hk2⟩ := Option.bind_eq_some_iff.1 hk
        have hkr := keyA_ok hk2 (he.opnd hk1)
        rw [hkr] at hx
        -- the entries
        have hall : ∃ ees : Array MapEntry, RL c.ρ c.own c.w es (flatE ees.toList) ∧ (keyOk T tk key = true → ∀ (r : Option (Nat × Value)), (∀ w', (Instr.findKey kt key ees.toList).run P w' = .ok r w') → ∀ (v : Value) (bb : Bool), ((match r with
            | some (_, v) => pure (v, true)
            | none => do pure (← zeroValue et, false) : Sem (Value × Bool))).run P c.w = .ok (v, bb) c.w → (Instr.lookup t (a.eval m) key okk).run P c.w = .ok (if okk then .tuple #[v, .bool bb] else v) c.w) := by
          have fin : ∀ (r : Option (Nat × Value)) (v : Value) (bb : Bool) (rest : Sem Value), rest.run P c.w = (((match r with
              | some (_, v) => pure (v, true)
              | none => do pure (← zeroValue et, false) : Sem (Value × Bool)) >>= fun p => pure (if okk then .tuple #[p.1, .bool p.2] else p.1) : Sem Value)).run P c.w → ((match r with
              | some (_, v) => pure (v, true)
              | none => do pure (← zeroValue et, false) : Sem (Value × Bool))).run P c.w = .ok (v, bb) c.w → rest.run P c.w = .ok (if okk then .tuple #[v, .bool bb] else v) c.w := by
            intro r v bb rest h1 h2
            rw [h1, Sem.run_bind, h2]
            rfl
          rcases entriesA_ok ok hes (he.opnd hm) with ⟨rfl, h1⟩ | ⟨g, ees, n, h1, h2, h3⟩
          · refine ⟨#[], RL.nil, fun hko r hf v bb hrun => fin r v bb _ ?_ hrun⟩
            have hchk : ∀ b w, (Instr.checkKey b 10000 kt key).run P w = .ok () w := fun b w => keyOk_check hT htk hko b w
            rw [h1]
            simp only [Instr.lookup, Sem.run_bind, run_underlying hd, Result.andThen_ok, Sem.run_pure, hchk, hf]
            cases r with
            | none => cases hz : Sem.run P (zeroValue et) c.w <;> simp [hz, Result.andThen]
            | some p => simp
          · refine ⟨ees, h3, fun hko r hf v bb hrun => fin r v bb _ ?_ hrun⟩
            have hchk : ∀ b w, (Instr.checkKey b 10000 kt key).run P w = .ok () w := fun b w => keyOk_check hT htk hko b w
            rw [h1]
            simp only [Instr.lookup, Sem.run_bind, run_underlying hd, Result.andThen_ok, Sem.run_pure, MapKept.run_getObj_map h2, hchk, hf]
            cases r with
            | none => cases hz : Sem.run P (zeroValue et) c.w <;> simp [hz, Result.andThen]
            | some p => simp
        obtain ⟨ees, hees, hrun⟩ := hall
        split at h
        · rename_i jj z hf
          simp only [Option.some.injEq] at h
          subst h
          obtain ⟨hko, hor⟩ := findK_ok hT htk hf hees
          rcases hor with ⟨h1, -⟩ | ⟨k1, a1, e1, h1, h2, h3, h4⟩
          · cases h1
          · simp only [Option.some.injEq, Prod.mk.injEq] at h1
            obtain ⟨rfl, rfl⟩ := h1
            refine Gives.mk hx (hrun hko _ h2 e1.val true (by simp)) ?_
            cases okk
            · exact h4
            · simp only [if_true]
              rw [R]
              exact ⟨[e1.val, .bool true], rfl, RL.cons h4 (RL.cons (by rw [R]) RL.nil)⟩
        · rename_i hf
          split at h
          · rename_i z hz
            simp only [Option.some.injEq] at h
            subst h
            obtain ⟨hko, hor⟩ := findK_ok hT htk hf hees
            rcases hor with ⟨-, h2⟩ | ⟨k1, a1, e1, h1, -⟩
            · obtain ⟨y, hy, hyr⟩ := zeroA_ok (hT.facts hte) hz c.w (ρ := c.ρ) (own := c.own) (w0 := c.w)
              refine Gives.mk hx (hrun hko _ h2 y false (by simp [hy])) ?_
              cases okk
              · exact hyr
              · simp only [if_true]
                rw [R]
                exact ⟨[y, .bool false], rfl, RL.cons hyr (RL.cons (by rw [R]) RL.nil)⟩
            · cases h1
          · cases h
        · cases h
      · cases h
    · cases h
  · cases h

theorem quiet_ok (hT : TOk P T) (ok : Ok T.gl c) (he : EnvR c e a) (h : quietOp T e c.H o.op = some x) : Gives P c a o x := by
  cases ho : o.op <;> rw [ho] at h
  case move y =>
    simp only [quietOp] at h
    exact ⟨a.eval y, by simp [execOp, ho], he.opnd h⟩
  case assign y =>
    simp only [quietOp] at h
    exact ⟨a.eval y, by simp [execOp, ho], he.opnd h⟩
  case pick => exact pick_ok he ho h
  case load => exact load_ok hT ok he ho h
  case nilCheck => exact nilCheck_ok he ho h
  case binOp => exact binOp_ok hT he ho h
  case unOp => exact unOp_ok he ho h
  case convert => exact convert_ok hT ok he ho h
  case build => exact build_ok hT he ho h
  case fieldAddr => exact fieldAddr_ok hT he ho h
  case field => exact field_ok hT he ho h
  case indexAddr => exact indexAddr_ok hT he ho h
  case index => exact index_ok hT he ho h
  case slice => exact slice_ok hT ok he ho h
  case extract => exact extract_ok he ho h
  case makeFunc => exact makeFunc_ok he ho h
  case lookup => exact lookup_ok hT ok he ho h
  case call => exact call_ok hT he ho h
  all_goals (simp [quietOp] at h; done)
end
end Go.Proofs.YtijpomemobgddaaGreatDoor.Ev
