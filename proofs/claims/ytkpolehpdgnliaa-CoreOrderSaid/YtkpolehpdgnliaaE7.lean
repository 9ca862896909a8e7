/- The evaluator's quiet operations are the model's: each gives what the model's gives, and leaves the world alone. -/
import Derived.Test.YtkpolehpdgnliaaE5
set_option linter.unusedSimpArgs false
set_option linter.unusedVariables false
namespace Go.Proofs.Ytkpolehpdgnliaa.Ev
open Go Go.RowKit
variable {P : Program} {T : Tb}

theorem sameA_ok (hT : TOk P T) {ρ : List Nat} {own : Nat → Prop} {w : World} {t : TypeId} {ty : Ty} (hty : T t = some ty) {a b : A} {x y : Value} {r : Bool}
    (h : sameA T t ty a b = some r) (ha : R ρ own w a x) (hb : R ρ own w b y) :
    (Op.equal t x y).run P w = .ok r w ∧ (∀ k a k' b, x = .int k a → y = .int k' b → False) ∧ (∀ k a k' b, x = .float k a → y = .float k' b → False) ∧ (∀ k a a' k' b b', x = .complex k a a' → y = .complex k' b b' → False) ∧ (∀ a b, x = .string a → y = .string b → False) ∧
      (∀ p q, x = .agg p → y = .agg q → P.eqGuardType P.depth t = false) ∧ (x = .nilIface → y = .nilIface → False) := by
  have F := hT.facts hty
  obtain ⟨d, hd, hkd⟩ := F.desc
  unfold sameA at h
  cases hn : nilEq ty.k a b with
  | some r' =>
    simp only [hn, Option.some.injEq] at h
    subst h
    rw [← hkd] at hn
    obtain ⟨h1, h2, h3, h4, h5, h6, h7⟩ := nilEq_ok hd hn ha hb
    exact ⟨h1, h2, h3, h4, h5, fun p q e1 e2 => (h6 p q e1 e2).elim, h7⟩
  | none =>
    simp only [hn] at h
    split at h
    · rename_i xs ys
      split at h
      · rename_i hc
        simp only [Bool.and_eq_true] at hc
        simp only [R] at ha hb
        obtain ⟨us, rfl, hus⟩ := ha
        obtain ⟨vs, rfl, hvs⟩ := hb
        have := eqT_ok hT 20 Op.maxDepth t ty xs ys us vs (.agg us.toArray) (.agg vs.toArray) r (by decide) hty h hus hvs ⟨(fun _ => rfl), (fun h => by rw [hc.1] at h; cases h)⟩ ⟨(fun _ => rfl), (fun h => by rw [hc.1] at h; cases h)⟩
        refine ⟨this, ?_⟩
        simp [(F.plain hc.2).1]
      · cases h
    · rename_i p q
      split at h
      · rename_i hk
        obtain rfl := Option.some.inj h
        simp only [R] at ha hb
        subst ha hb
        rw [hk] at hkd
        cases d <;> simp [kOf] at hkd
        refine ⟨equal_of (fun d => by unfold Op.equalIn; simp [run_underlying hd]), ?_⟩
        simp
      · cases h
    · cases h

theorem eqOp_ok (hT : TOk P T) {ρ : List Nat} {own : Nat → Prop} {w : World} {t : TypeId} {op : BinOp} {a b z : A} {x y : Value} (xo yo : Operand)
    (h : eqOp T op t a b = some z) (ha : R ρ own w a x) (hb : R ρ own w b y) : ∃ u, (do eqGuard op t xo yo x y; binOp op t x y : Sem Value).run P w = .ok u w ∧ R ρ own w z u := by
  unfold eqOp at h
  cases hty : T t with
  | none => simp [hty] at h
  | some ty =>
    simp only [hty] at h
    split at h
    · rename_i r hs
      obtain rfl := Option.some.inj h
      obtain ⟨h1, h2, h3, h4, h5, h6, h7⟩ := sameA_ok hT hty hs ha hb
      refine ⟨.bool r, ?_, by rw [R]⟩
      rw [Sem.run_bind, run_eqGuard_eq _ _ _ _ _ _ _ h6 h7]
      exact (run_eql t h1 h2 h3 h4 h5).1
    · rename_i r hs
      obtain rfl := Option.some.inj h
      obtain ⟨h1, h2, h3, h4, h5, h6, h7⟩ := sameA_ok hT hty hs ha hb
      refine ⟨.bool !r, ?_, by rw [R]⟩
      rw [Sem.run_bind, run_eqGuard_eq _ _ _ _ _ _ _ h6 h7]
      exact (run_eql t h1 h2 h3 h4 h5).2
    · cases h

section
variable {c : Cfg} {e : Env} {a : Act} {o : Oper} {x : A}
/-- What is asked of an operation. -/
def Gives (P : Program) (c : Cfg) (a : Act) (o : Oper) (x : A) : Prop := ∃ y, (execOp a.eval o).run P c.w = .ok (.value y) c.w ∧ R c.ρ c.own c.w x y
theorem Gives.mk {s : Sem Value} {y : Value} (hx : execOp a.eval o = (do pure (.value (← s)) : Sem Next)) (h : s.run P c.w = .ok y c.w) (hr : R c.ρ c.own c.w x y) : Gives P c a o x := ⟨y, by rw [hx]; simp [h], hr⟩

theorem binOp_ok (hT : TOk P T) (he : EnvR c e a) {op : BinOp} {t t' : TypeId} {p q : Operand} (ho : o.op = .binOp op t p q t') (h : quietOp T e c.H (.binOp op t p q t') = some x) : Gives P c a o x := by
  simp only [quietOp] at h
  have hx : execOp a.eval o = (do pure (.value (← (do eqGuard op t p q (a.eval p) (a.eval q); binOp op t (a.eval p) (a.eval q) : Sem Value))) : Sem Next) := by simp only [execOp, ho]
  cases hp : opnd e p with
  | none => simp [hp] at h
  | some u =>
    cases hq : opnd e q with
    | none => simp [hp, hq] at h
    | some v =>
      have hu := he.opnd hp
      have hv := he.opnd hq
      simp only [hp, hq] at h
      have viaEq : ∀ z, eqOp T op t u v = some z → Gives P c a o z := fun z hz => by
        obtain ⟨y, h1, h2⟩ := eqOp_ok hT p q hz hu hv
        exact Gives.mk hx h1 h2
      split at h
      · rename_i m n h1 h2
        obtain rfl := Option.some.inj h1
        obtain rfl := Option.some.inj h2
        cases hb : binV op m n with
        | some r =>
          simp only [hb, Option.some.injEq] at h
          subst h
          simp only [R] at hu hv
          obtain ⟨n1, n2⟩ := binV_not hb
          refine Gives.mk (y := r) hx ?_ (by rw [R])
          rw [hu, hv, Sem.run_bind, run_eqGuard_eq _ _ _ _ _ _ _ (fun p q h1 h2 => (n1 p q h1 h2).elim) n2]
          exact binV_ok t c.w hb
        | none =>
          simp only [hb] at h
          exact viaEq x h
      · rename_i m n _ h1 h2
        obtain rfl := Option.some.inj h1
        obtain rfl := Option.some.inj h2
        exact viaEq x h
      · cases h

theorem unOp_ok (he : EnvR c e a) {op : UnOp} {t : TypeId} {p : Operand} (ho : o.op = .unOp op t p) (h : quietOp T e c.H (.unOp op t p) = some x) : Gives P c a o x := by
  simp only [quietOp] at h
  have hx : execOp a.eval o = (do pure (.value (← Op.unary op (a.eval p))) : Sem Next) := by simp only [execOp, ho]
  split at h
  all_goals first
    | (cases h; done)
    | (rename_i hp
       obtain rfl := Option.some.inj h
       have hu := he.opnd hp
       simp only [R] at hu
       refine Gives.mk hx (y := _) ?_ (by rw [R])
       rw [hu]
       simp [Op.unary, Op.intArith, Op.intBits])

theorem convert_ok (hT : TOk P T) (he : EnvR c e a) {t t' : TypeId} {p : Operand} (ho : o.op = .convert t t' p) (h : quietOp T e c.H (.convert t t' p) = some x) : Gives P c a o x := by
  simp only [quietOp] at h
  have hx : execOp a.eval o = (do pure (.value (← convert t t' (a.eval p))) : Sem Next) := by simp only [execOp, ho]
  split at h
  · rename_i hs hd hp
    have hu := he.opnd hp
    simp only [R] at hu
    obtain ⟨d1, h1, -⟩ := (hT.facts hs).desc
    obtain ⟨d2, h2, k2⟩ := (hT.facts hd).desc
    split at h
    · rename_i k hk
      obtain rfl := Option.some.inj h
      rw [hk] at k2
      cases d2 <;> simp [kOf] at k2
      subst k2
      refine Gives.mk hx (y := _) ?_ (by rw [R])
      rw [hu]
      simp [convert, run_underlying h1, run_underlying h2, Conv.intToInt]
    · cases h
  · rename_i hs hd hp
    have hu := he.opnd hp
    simp only [R] at hu
    obtain ⟨d1, h1, -⟩ := (hT.facts hs).desc
    obtain ⟨d2, h2, k2⟩ := (hT.facts hd).desc
    split at h
    · rename_i hk
      obtain rfl := Option.some.inj h
      rw [hk] at k2
      cases d2 <;> simp [kOf] at k2
      refine Gives.mk hx (y := _) ?_ (by rw [R])
      rw [hu]
      simp [convert, run_underlying h1, run_underlying h2]
    · cases h
  · cases h

theorem load_ok (hT : TOk P T) (ok : Ok T.gl c) (he : EnvR c e a) {t : TypeId} {p : Operand} (ho : o.op = .load t p) (h : quietOp T e c.H (.load t p) = some x) : Gives P c a o x := by
  simp only [quietOp] at h
  have hx : execOp a.eval o = (do pure (.value (← Instr.loadAt t (a.eval p))) : Sem Next) := by simp only [execOp, ho]
  cases hp : opnd e p with
  | none => simp [hp] at h
  | some u =>
    cases hr : readL T.gl c.H u with
    | none => simp [hp, hr] at h
    | some cs =>
      cases hty : T t with
      | none => simp [hp, hr, hty] at h
      | some ty =>
        simp only [hp, hr, hty, Option.bind_some] at h
        obtain ⟨g, off, xs, h1, h2, h3⟩ := readL_ok ok hr (he.opnd hp)
        obtain ⟨y, h4, h5⟩ := run_loadVar (hT.facts hty) h h2 h3
        refine Gives.mk hx (y := y) ?_ h5
        rw [h1]
        simpa [Instr.loadAt, Instr.sureAddr] using h4

theorem nilCheck_ok (he : EnvR c e a) {p : Operand} (ho : o.op = .nilCheck p) (h : quietOp T e c.H (.nilCheck p) = some x) : Gives P c a o x := by
  simp only [quietOp] at h
  split at h
  all_goals first
    | (cases h; done)
    | (rename_i hp
       obtain rfl := Option.some.inj h
       have hu := he.opnd hp
       refine ⟨a.eval p, ?_, hu⟩
       simp only [R] at hu
       first
         | (obtain ⟨g, -, hu⟩ := hu; simp [execOp, ho, hu]; done)
         | (obtain ⟨g, off, xs, hu, -⟩ := hu; simp [execOp, ho, hu]; done)
         | (obtain ⟨xs, ys, hu, -⟩ := hu; simp [execOp, ho, hu]; done)
         | (simp [execOp, ho, hu]; done))

theorem pick_ok (he : EnvR c e a) {p q r : Operand} (ho : o.op = .pick p q r) (h : quietOp T e c.H (.pick p q r) = some x) : Gives P c a o x := by
  simp only [quietOp] at h
  split at h
  · rename_i t u v hp hq hr
    obtain rfl := Option.some.inj h
    have h1 := he.opnd hp
    simp only [R] at h1
    refine ⟨if t then a.eval q else a.eval r, by simp [execOp, ho, h1, asBool], ?_⟩
    cases t
    · exact he.opnd hr
    · exact he.opnd hq
  · rename_i u hp hq hr
    obtain rfl := Option.some.inj h
    have h1 := he.opnd hp
    simp only [R] at h1
    exact ⟨a.eval q, by simp [execOp, ho, h1, asBool], he.opnd hq⟩
  · rename_i u hp hq hr
    obtain rfl := Option.some.inj h
    have h1 := he.opnd hp
    simp only [R] at h1
    exact ⟨a.eval r, by simp [execOp, ho, h1, asBool], he.opnd hr⟩
  · cases h

theorem extract_ok (he : EnvR c e a) {p : Operand} {i : Nat} (ho : o.op = .extract p i) (h : quietOp T e c.H (.extract p i) = some x) : Gives P c a o x := by
  simp only [quietOp] at h
  have hx : execOp a.eval o = (do pure (.value (← Instr.extract (a.eval p) i)) : Sem Next) := by simp only [execOp, ho]
  split at h
  · rename_i cs hp
    have h1 := he.opnd hp
    simp only [R] at h1
    obtain ⟨xs, h1, h2⟩ := h1
    obtain ⟨y, hy, hr⟩ := h2.get i x h
    refine Gives.mk hx (y := y) ?_ hr
    rw [h1]
    simp [Instr.extract, hy]
  · rename_i xs hp
    have h1 := he.opnd hp
    simp only [R] at h1
    cases hi : xs[i]? with
    | none => simp [hi] at h
    | some y =>
      simp only [hi, Option.map_some, Option.some.injEq] at h
      subst h
      refine Gives.mk hx (y := y) ?_ (ofV_ok y)
      rw [h1]
      simp [Instr.extract, hi]
  · cases h

theorem makeFunc_ok (he : EnvR c e a) {fn : Fn} {p q : Array Operand} (ho : o.op = .makeFunc fn p q) (h : quietOp T e c.H (.makeFunc fn p q) = some x) : Gives P c a o x := by
  simp only [quietOp] at h
  have hx : execOp a.eval o = (do pure (.value (← Instr.makeFunc fn (p.map a.eval) (q.map a.eval))) : Sem Next) := by simp only [execOp, ho]
  split at h
  · rename_i f xs ys h1 h2
    obtain rfl := Option.some.inj h
    refine Gives.mk hx (y := _) rfl ?_
    rw [R]
    exact ⟨p.toList.map a.eval, q.toList.map a.eval, by simp [← Array.toList_map], he.opnds h1, he.opnds h2⟩
  · cases h
end
end Go.Proofs.Ytkpolehpdgnliaa.Ev
