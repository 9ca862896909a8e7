/- The evaluator's quiet operations are the model's. -/
import Derived.Test.YtijpomemobgddaaGreatDoorE2
set_option linter.unusedSimpArgs false
set_option linter.unusedVariables false
namespace Go.Proofs.YtijpomemobgddaaGreatDoor.Ev
open Go Go.RowKit
variable {P : Program} {T : Tb}

/-- The types are the program's. -/
def TOk (P : Program) (T : Tb) : Prop := ∀ t ty, T t = some ty → tyOf P t = some ty

structure TyFacts (P : Program) (t : TypeId) (ty : Ty) : Prop where
  info : ∃ i z, P.info? t = some i ∧ i.size = ty.size ∧ i.bytes = ty.bytes ∧ i.zero = some z ∧ zeroOf ty.k z = some ty.zero
  desc : ∃ d, P.underlying t = some d ∧ kOf d = ty.k
  plain : ty.plain = true → P.eqGuardType P.depth t = false ∧ P.stoodInHeld t = false
theorem tyFacts {t : TypeId} {ty : Ty} (h : tyOf P t = some ty) : TyFacts P t ty := by
  unfold tyOf at h
  cases hi : P.info? t with
  | none => simp [hi] at h
  | some i =>
    cases hd : P.underlying t with
    | none => simp [hi, hd] at h
    | some d =>
      simp only [hi, hd] at h
      cases hz : i.zero with
      | none => simp [hz] at h
      | some z =>
        simp only [hz, Option.bind_some] at h
        cases hz' : zeroOf (kOf d) z with
        | none => simp [hz'] at h
        | some zs =>
          simp only [hz', Option.some.injEq] at h
          subst h
          exact ⟨⟨i, z, hi, rfl, rfl, hz, hz'⟩, ⟨d, hd, rfl⟩, fun hp => by simpa using hp⟩
theorem TOk.facts (hT : TOk P T) {t : TypeId} {ty : Ty} (h : T t = some ty) : TyFacts P t ty := tyFacts (hT t ty h)

section
variable {t : TypeId} {ty : Ty} (F : TyFacts P t ty) (w : World)
include F
theorem TyFacts.run_sizeOf : (sizeOf t).run P w = .ok ty.size w := by
  obtain ⟨i, z, h, h1, -⟩ := F.info
  simp [sizeOf, typeInfo, h, h1]
theorem TyFacts.run_info : ∃ i, (typeInfo t).run P w = .ok i w ∧ i.size = ty.size ∧ i.bytes = ty.bytes := by
  obtain ⟨i, z, h, h1, h2, -⟩ := F.info
  exact ⟨i, by simp [typeInfo, h], h1, h2⟩
theorem TyFacts.run_under : ∃ d, (underlying t).run P w = .ok d w ∧ kOf d = ty.k := by
  obtain ⟨d, h, h1⟩ := F.desc
  exact ⟨d, run_underlying h w, h1⟩
theorem TyFacts.run_isAgg : (isAgg t).run P w = .ok ty.k.agg w := by
  obtain ⟨d, h, h1⟩ := F.run_under w
  simp only [isAgg, Sem.run_bind, h, Result.andThen_ok]
  rw [← h1]
  cases d <;> rfl
theorem TyFacts.zero : ∃ z, (zeroValue t).run P w = .ok z w ∧ z.cells.toList = ty.zero ∧ (ty.k.agg = true → z = .agg ty.zero.toArray) := by
  obtain ⟨i, z, h, -, -, h3, h4⟩ := F.info
  refine ⟨z, by simp [zeroValue, typeInfo, h, h3], ?_, ?_⟩
  · unfold zeroOf at h4
    split at h4
    · split at h4
      · simpa [Value.cells] using h4
      · cases h4
    · split at h4
      · cases h4
      · rename_i hx _
        simp only [Option.some.injEq] at h4
        rw [← h4]
        cases z <;> simp_all [Value.cells]
  · intro ha
    unfold zeroOf at h4
    split at h4
    · simp only [ha, if_true, Option.some.injEq] at h4
      rw [← h4]
    · simp [ha] at h4
end

/-- What the slots hold. -/
def EnvR (c : Cfg) (e : Env) (a : Act) : Prop := ∀ t x, look e t = some x → R c.ρ c.own c.w x (a.tmps.getD t undef)

section
variable {c : Cfg} {e : Env} {a : Act}
theorem ofV_ok {ρ : List Nat} {own : Nat → Prop} {w : World} (x : Value) : R ρ own w (ofV x) x := by
  unfold ofV
  split
  · rename_i xs
    rw [R]
    exact ⟨xs.toList, by simp, RL.exact _⟩
  · rw [R]
theorem EnvR.opnd (he : EnvR c e a) {x : Operand} {z : A} (h : opnd e x = some z) : R c.ρ c.own c.w z (a.eval x) := by
  cases x with
  | tmp t => exact he t z h
  | const v =>
    obtain rfl := Option.some.inj h
    exact ofV_ok v
  | func f =>
    obtain rfl := Option.some.inj h
    rw [R]
    rfl
  | global g =>
    obtain rfl := Option.some.inj h
    rw [R]
    rfl
theorem EnvR.opnds (he : EnvR c e a) : ∀ {l : List Operand} {zs : List A}, opnds e l = some zs → RL c.ρ c.own c.w zs (l.map a.eval)
  | [], zs, h => by obtain rfl := Option.some.inj h; exact RL.nil
  | x :: l, zs, h => by
    unfold Ev.opnds at h
    cases h1 : Ev.opnd e x with
    | none => simp [h1] at h
    | some z =>
      cases h2 : Ev.opnds e l with
      | none => simp [h1, h2] at h
      | some zs' =>
        simp only [h1, h2, Option.some.injEq] at h
        subst h
        exact RL.cons (he.opnd h1) (he.opnds h2)

/-- What is known without a way into live blocks stands with any of them. -/
theorem R.open_ {own : Nat → Prop} {w : World} {ρ : List Nat} {z : A} {y : Value} (h : R [] own w z y) : R ρ own w z y :=
  R.keep ⟨List.nil_prefix, Nat.le_refl _, fun _ _ h => ⟨h, rfl⟩, fun _ cur _ fz h => ⟨cur, fz, h, rfl⟩, fun _ es n h => ⟨es, n, h⟩, fun _ o h _ => ⟨o, h, rfl⟩⟩ z y h
theorem RL.open_ {own : Nat → Prop} {w : World} {ρ : List Nat} {z : List A} {y : List Value} (h : RL [] own w z y) : RL ρ own w z y :=
  RL.keep ⟨List.nil_prefix, Nat.le_refl _, fun _ _ h => ⟨h, rfl⟩, fun _ cur _ fz h => ⟨cur, fz, h, rfl⟩, fun _ es n h => ⟨es, n, h⟩, fun _ o h _ => ⟨o, h, rfl⟩⟩ z y h

theorem Ok.lies (ok : Ok T.gl c) {b g : Nat} {k : Blk} (hb : c.H[b]? = some (some k)) (hg : c.ρ[b]? = some g) (hc0 : ∃ cur e fz, c.w.heap[g]? = some (.cells cur e fz)) :
    ∃ cur xs, c.w.heap[g]? = some (.cells cur k.e (0, 0)) ∧ RL c.ρ c.own c.w k.cs xs ∧ Lies c.w g 0 xs ∧ xs <+: cur.toList ∧ (k.whole = true → cur.size = k.cs.length) := by
  obtain ⟨cur0, e0, fz0, hc0⟩ := hc0
  obtain ⟨cur, xs, h1, h2, h3, h4⟩ := ok.cells (e := k.e) (cs := k.cs) (wh := k.whole) hb hg hc0
  refine ⟨cur, xs, h1, h2, fun i x hx => ?_, h3, h4⟩
  have hc : cur[i]? = some x := by
    have hlt := (List.getElem?_eq_some_iff.1 hx).1
    have := h3.getElem hlt
    have h5 : cur.toList[i]? = some x := by
      rw [List.getElem?_eq_getElem (Nat.lt_of_lt_of_le hlt h3.length_le), ← this]
      exact congrArg some (List.getElem?_eq_some_iff.1 hx).2
    simpa using h5
  simp [World.cell?, h1, hc]

theorem readL_ok (ok : Ok T.gl c) {p : A} {y : Value} {cs : List A} (h : readL T.gl.tab c.H p = some cs) (hr : R c.ρ c.own c.w p y) :
    ∃ g off xs, y = .pointer (some ⟨g, off, none⟩) ∧ RL c.ρ c.own c.w cs xs ∧ Lies c.w g off xs := by
  cases p with
  | ptr b off =>
    unfold readL at h
    rw [R] at hr
    obtain ⟨g, hg, rfl, hsh⟩ := hr
    cases hb : c.H[b]? with
    | none => simp [hb] at h
    | some k =>
      cases k with
      | none => simp [hb] at h
      | some k =>
        simp only [hb, Option.some.injEq] at h
        subst h
        obtain ⟨cur, xs, -, h2, h3, -⟩ := ok.lies hb hg hsh
        refine ⟨g, off, xs.drop off, rfl, h2.drop off, ?_⟩
        simpa using h3.drop off
  | fp cs' =>
    unfold readL at h
    obtain rfl := Option.some.inj h
    rw [R] at hr
    obtain ⟨g, off, xs, h1, -, -, h4, h5⟩ := hr
    exact ⟨g, off, xs, h1, h4.open_, h5⟩
  | v x =>
    rw [R] at hr
    subst hr
    unfold readL at h
    split at h
    · rename_i g off heq
      cases heq
      split at h
      · rename_i vs hg
        obtain rfl := Option.some.inj h
        obtain ⟨-, -, h3, -⟩ := ok.glob.1 _ _ hg
        exact ⟨_, _, vs.drop off, rfl, RL.exact _, by simpa using h3.drop off⟩
      · cases h
    · rename_i heq
      cases heq
    · rename_i heq
      cases heq
    · cases h
  | _ => simp [readL] at h

theorem run_loadVar {t : TypeId} {ty : Ty} (F : TyFacts P t ty) {w : World} {ρ : List Nat} {own : Nat → Prop} {g off : Nat} {cs : List A} {xs : List Value} {x : A}
    (h : partA ty cs 0 = some x) (hr : RL ρ own w cs xs) (hl : Lies w g off xs) : ∃ y, (loadVar t ⟨g, off, none⟩).run P w = .ok y w ∧ R ρ own w x y := by
  unfold partA at h
  simp only [Nat.zero_add, List.drop_zero] at h
  split at h
  · rename_i hsz
    simp only [loadVar, Sem.run_bind, F.run_isAgg w, Result.andThen_ok]
    by_cases ha : ty.k.agg = true
    · simp only [ha, if_true, Option.some.injEq] at h ⊢
      subst h
      have hlen : (xs.take ty.size).length = ty.size := by rw [List.length_take, hr.length]; omega
      have hrun := run_loadCells_list (P := P) w ⟨g, off, none⟩ (xs.take ty.size) fun j v hv => by
        rw [Addr.add_lit]
        exact hl.take ty.size j v hv
      rw [hlen] at hrun
      refine ⟨.agg (xs.take ty.size).toArray, by simp [F.run_sizeOf w, hrun], ?_⟩
      rw [R]
      exact ⟨_, rfl, hr.take _⟩
    · simp only [Bool.not_eq_true] at ha
      simp only [ha, Bool.false_eq_true, if_false] at h ⊢
      split at h
      · obtain ⟨y, hy, hry⟩ := hr.get 0 x h
        have := hl 0 y hy
        refine ⟨y, ?_, hry⟩
        simp only [Nat.add_zero] at this
        simp [this]
      · cases h
  · cases h
theorem run_part {t : TypeId} {ty : Ty} (F : TyFacts P t ty) {w : World} {ρ : List Nat} {own : Nat → Prop} {off : Nat} {cs : List A} {xs : List Value} {x : A}
    (h : partA ty cs off = some x) (hr : RL ρ own w cs xs) : ∃ y, (part t xs.toArray off).run P w = .ok y w ∧ R ρ own w x y := by
  unfold partA at h
  split at h
  · rename_i hsz
    simp only [part, Sem.run_bind, F.run_isAgg w, Result.andThen_ok]
    by_cases ha : ty.k.agg = true
    · simp only [ha, if_true, Option.some.injEq] at h ⊢
      subst h
      refine ⟨.agg ((xs.drop off).take ty.size).toArray, by simp [F.run_sizeOf w, List.extract_eq_take_drop], ?_⟩
      rw [R]
      exact ⟨_, rfl, (hr.drop _).take _⟩
    · simp only [Bool.not_eq_true] at ha
      simp only [ha, Bool.false_eq_true, if_false] at h ⊢
      split at h
      · obtain ⟨y, hy, hry⟩ := hr.get off x h
        exact ⟨y, by simp [hy], hry⟩
      · cases h
  · cases h
end
end Go.Proofs.YtijpomemobgddaaGreatDoor.Ev
