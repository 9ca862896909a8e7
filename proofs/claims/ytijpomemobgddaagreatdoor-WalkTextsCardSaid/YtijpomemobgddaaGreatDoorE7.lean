/- The evaluator's quiet operations are the model's: each gives what the model's gives, and leaves the world alone. -/
import Derived.Test.YtijpomemobgddaaGreatDoorE4
import Derived.Lib.UnsafeStr
import Derived.Laws.BytesArg
set_option linter.unusedSimpArgs false
set_option linter.unusedVariables false
namespace Go.Proofs.YtijpomemobgddaaGreatDoor.Ev
open Go Go.RowKit
variable {P : Program} {T : Tb}

theorem sameA_ok (hT : TOk P T) {ρ : List Nat} {own : Nat → Prop} {w : World} {t : TypeId} {ty : Ty} (hty : T t = some ty) {a b : A} {x y : Value} {r : Bool}
    (h : sameA T t ty a b = some r) (ha : R ρ own w a x) (hb : R ρ own w b y) :
    (Op.equal t x y).run P w = .ok r w ∧ (∀ k a k' b, x = .int k a → y = .int k' b → False) ∧ (∀ k a k' b, x = .float k a → y = .float k' b → False) ∧ (∀ k a a' k' b b', x = .complex k a a' → y = .complex k' b b' → False) ∧ (∀ a b, x = .string a → y = .string b → False) ∧
      (∀ p q, x = .agg p → y = .agg q → P.eqGuardType P.depth t = false) ∧ (x = .nilIface → y = .nilIface → False) := by
  have F := hT.facts hty
  obtain ⟨d, hd, hkd⟩ := F.desc
  unfold sameA at h
  cases hn : nilEq ty.k a b with
  | some r' =>
    simp only [hn, Option.some.injEq] at h
    subst h
    rw [← hkd] at hn
    obtain ⟨h1, h2, h3, h4, h5, h6, h7⟩ := nilEq_ok hd hn ha hb
    exact ⟨h1, h2, h3, h4, h5, fun p q e1 e2 => (h6 p q e1 e2).elim, h7⟩
  | none =>
    simp only [hn] at h
    split at h
    · rename_i xs ys
      split at h
      · rename_i hc
        simp only [Bool.and_eq_true] at hc
        simp only [R] at ha hb
        obtain ⟨us, rfl, hus⟩ := ha
        obtain ⟨vs, rfl, hvs⟩ := hb
        have := eqT_ok hT 20 Op.maxDepth t ty xs ys us vs (.agg us.toArray) (.agg vs.toArray) r (by decide) hty h hus hvs ⟨(fun _ => rfl), (fun h => by rw [hc.1] at h; cases h)⟩ ⟨(fun _ => rfl), (fun h => by rw [hc.1] at h; cases h)⟩
        refine ⟨this, ?_⟩
        simp [(F.plain hc.2).1]
      · cases h
    · rename_i p q
      split at h
      · rename_i hk
        obtain rfl := Option.some.inj h
        simp only [R] at ha hb
        subst ha hb
        rw [hk] at hkd
        cases d <;> simp [kOf] at hkd
        refine ⟨equal_of (fun d => by unfold Op.equalIn; simp [run_underlying hd]), ?_⟩
        simp
      · cases h
    · cases h

theorem eqOp_ok (hT : TOk P T) {ρ : List Nat} {own : Nat → Prop} {w : World} {t : TypeId} {op : BinOp} {a b z : A} {x y : Value} (xo yo : Operand)
    (h : eqOp T op t a b = some z) (ha : R ρ own w a x) (hb : R ρ own w b y) : ∃ u, (do eqGuard op t xo yo x y; binOp op t x y : Sem Value).run P w = .ok u w ∧ R ρ own w z u := by
  unfold eqOp at h
  cases hty : T t with
  | none => simp [hty] at h
  | some ty =>
    simp only [hty] at h
    split at h
    · rename_i r hs
      obtain rfl := Option.some.inj h
      obtain ⟨h1, h2, h3, h4, h5, h6, h7⟩ := sameA_ok hT hty hs ha hb
      refine ⟨.bool r, ?_, by rw [R]⟩
      rw [Sem.run_bind, run_eqGuard_eq _ _ _ _ _ _ _ h6 h7]
      exact (run_eql t h1 h2 h3 h4 h5).1
    · rename_i r hs
      obtain rfl := Option.some.inj h
      obtain ⟨h1, h2, h3, h4, h5, h6, h7⟩ := sameA_ok hT hty hs ha hb
      refine ⟨.bool !r, ?_, by rw [R]⟩
      rw [Sem.run_bind, run_eqGuard_eq _ _ _ _ _ _ _ h6 h7]
      exact (run_eql t h1 h2 h3 h4 h5).2
    · cases h

section
variable {c : Cfg} {e : Env} {a : Act} {o : Oper} {x : A}
/-- What is asked of an operation. -/
def Gives (P : Program) (c : Cfg) (a : Act) (o : Oper) (x : A) : Prop := ∃ y, (execOp a.eval o).run P c.w = .ok (.value y) c.w ∧ R c.ρ c.own c.w x y
theorem Gives.mk {s : Sem Value} {y : Value} (hx : execOp a.eval o = (do pure (.value (← s)) : Sem Next)) (h : s.run P c.w = .ok y c.w) (hr : R c.ρ c.own c.w x y) : Gives P c a o x := ⟨y, by rw [hx]; simp [h], hr⟩

theorem binOp_ok (hT : TOk P T) (he : EnvR c e a) {op : BinOp} {t t' : TypeId} {p q : Operand} (ho : o.op = .binOp op t p q t') (h : quietOp T e c.H (.binOp op t p q t') = some x) : Gives P c a o x := by
  simp only [quietOp] at h
  have hx : execOp a.eval o = (do pure (.value (← (do eqGuard op t p q (a.eval p) (a.eval q); binOp op t (a.eval p) (a.eval q) : Sem Value))) : Sem Next) := by simp only [execOp, ho]
  cases hp : opnd e p with
  | none => simp [hp] at h
  | some u =>
    cases hq : opnd e q with
    | none => simp [hp, hq] at h
    | some v =>
      have hu := he.opnd hp
      have hv := he.opnd hq
      simp only [hp, hq] at h
      have viaEq : ∀ z, eqOp T op t u v = some z → Gives P c a o z := fun z hz => by
        obtain ⟨y, h1, h2⟩ := eqOp_ok hT p q hz hu hv
        exact Gives.mk hx h1 h2
      split at h
      · rename_i m n h1 h2
        obtain rfl := Option.some.inj h1
        obtain rfl := Option.some.inj h2
        cases hb : binV op m n with
        | some r =>
          simp only [hb, Option.some.injEq] at h
          subst h
          simp only [R] at hu hv
          obtain ⟨n1, n2⟩ := binV_not hb
          refine Gives.mk (y := r) hx ?_ (by rw [R])
          rw [hu, hv, Sem.run_bind, run_eqGuard_eq _ _ _ _ _ _ _ (fun p q h1 h2 => (n1 p q h1 h2).elim) n2]
          exact binV_ok t c.w hb
        | none =>
          simp only [hb] at h
          exact viaEq x h
      · rename_i m n _ h1 h2
        obtain rfl := Option.some.inj h1
        obtain rfl := Option.some.inj h2
        exact viaEq x h
      · cases h

theorem unOp_ok (he : EnvR c e a) {op : UnOp} {t : TypeId} {p : Operand} (ho : o.op = .unOp op t p) (h : quietOp T e c.H (.unOp op t p) = some x) : Gives P c a o x := by
  simp only [quietOp] at h
  have hx : execOp a.eval o = (do pure (.value (← Op.unary op (a.eval p))) : Sem Next) := by simp only [execOp, ho]
  split at h
  all_goals first
    | (cases h; done)
    | (rename_i hp
       obtain rfl := Option.some.inj h
       have hu := he.opnd hp
       simp only [R] at hu
       refine Gives.mk hx (y := _) ?_ (by rw [R])
       rw [hu]
       simp [Op.unary, Op.intArith, Op.intBits])

theorem bytesOf_ok {ρ : List Nat} {own : Nat → Prop} {w : World} : ∀ {cs : List A} {ys : List Value} {l : List UInt8}, RL ρ own w cs ys → bytesOf cs = some l → ys = Lib.byteCells l
  | [], ys, l, h, hb => by
    rw [RL] at h
    subst h
    simp only [bytesOf, Option.some.injEq] at hb
    subst hb
    rfl
  | c :: cs, ys, l, h, hb => by
    rw [RL] at h
    obtain ⟨y, xs, rfl, h1, h2⟩ := h
    unfold bytesOf at hb
    split at hb
    · rename_i heq
      cases heq
    · rename_i x l0 heq
      injection heq with e1 e2
      subst e1
      subst e2
      split at hb
      · rename_i hx
        rw [Option.map_eq_some_iff] at hb
        obtain ⟨r, hr, rfl⟩ := hb
        rw [R] at h1
        subst h1
        rw [bytesOf_ok h2 hr]
        have : (UInt8.ofNat x.toNat).toNat = x.toNat := by
          rw [UInt8.toNat_ofNat']
          have : x.toNat < 256 := by omega
          omega
        simp only [Lib.byteCells, List.map_cons, this]
        congr 2
        omega
      · cases hb
    · cases hb

theorem convert_ok (hT : TOk P T) (ok : Ok T.gl c) (he : EnvR c e a) {t t' : TypeId} {p : Operand} (ho : o.op = .convert t t' p) (h : quietOp T e c.H (.convert t t' p) = some x) : Gives P c a o x := by
  simp only [quietOp] at h
  have hx : execOp a.eval o = (do pure (.value (← convert t t' (a.eval p))) : Sem Next) := by simp only [execOp, ho]
  split at h
  · rename_i hs hd hp
    have hu := he.opnd hp
    simp only [R] at hu
    obtain ⟨d1, h1, -⟩ := (hT.facts hs).desc
    obtain ⟨d2, h2, k2⟩ := (hT.facts hd).desc
    split at h
    · rename_i k hk
      obtain rfl := Option.some.inj h
      rw [hk] at k2
      cases d2 <;> simp [kOf] at k2
      subst k2
      refine Gives.mk hx (y := _) ?_ (by rw [R])
      rw [hu]
      simp [convert, run_underlying h1, run_underlying h2, Conv.intToInt]
    · cases h
  · rename_i hs hd hp
    have hu := he.opnd hp
    simp only [R] at hu
    obtain ⟨d1, h1, -⟩ := (hT.facts hs).desc
    obtain ⟨d2, h2, k2⟩ := (hT.facts hd).desc
    split at h
    · rename_i hk
      obtain rfl := Option.some.inj h
      rw [hk] at k2
      cases d2 <;> simp [kOf] at k2
      refine Gives.mk hx (y := _) ?_ (by rw [R])
      rw [hu]
      simp [convert, run_underlying h1, run_underlying h2]
    · cases h
  · rename_i sty ty b off len sz hs hd hp
    cases hq : Nat.beq t' 9 with
    | false =>
      rw [hq] at h
      cases h
    | true =>
      rw [hq, cond_true] at h
      have hr := he.opnd hp
      rw [R] at hr
      obtain ⟨g, cap, cur0, e0, fz0, hg, hy, hlc, hcm, hcur0, hroom⟩ := hr
      obtain ⟨d1, h1, k1⟩ := (hT.facts hs).desc
      obtain ⟨d2, h2, k2⟩ := (hT.facts hd).desc
      unfold convB at h
      split at h
      · rename_i el blk hk1 hk2 hb
        split at h
        · rename_i te l hte hl
          split at h
          · rename_i hku
            split at h
            · rename_i hc
              obtain ⟨hsz, hln⟩ := hc
              obtain rfl := Option.some.inj h
              rw [hk1] at k1
              rw [hk2] at k2
              obtain ⟨d3, h3, k3⟩ := (hT.facts hte).desc
              rw [hku] at k3
              cases d1 <;> simp [kOf] at k1
              subst k1
              cases d2 <;> simp [kOf] at k2
              cases d3 <;> simp [kOf] at k3
              subst k3
              obtain ⟨cur, xs, hcur, hxs, hlie, hpre, -⟩ := ok.lies hb hg ⟨cur0, e0, fz0, hcur0⟩
              have hb1 := bytesOf_ok ((hxs.drop off).take len) hl
              refine Gives.mk hx (y := .string ⟨l.toArray⟩) ?_ (by rw [R])
              rw [hy]
              have hrun := run_convert_bytes_arg (P := P) c.w t _ h1 h3 g off len cap (l.map fun b => (b.toNat : Int)) (by simp [hln]) (fun i hi => by
                refine hlie (off + i) _ ?_ |> fun hh => (by rw [Nat.zero_add] at hh; exact hh)
                have h9 : ((xs.drop off).take len)[i]? = some (.int .u8 (l[i]'(by omega)).toNat) := by
                  rw [hb1]
                  simp only [Lib.byteCells, List.getElem?_map, List.getElem?_eq_getElem (show i < l.length by omega), Option.map_some]
                rw [List.getElem?_take, if_pos hi, List.getElem?_drop] at h9
                rw [h9]
                simp [List.getD, List.getElem?_eq_getElem (show i < l.length by omega)]) t' h2
              have he8 : strOfNums (l.map fun b => (b.toNat : Int)) = ⟨l.toArray⟩ := by
                unfold strOfNums
                congr 1
                simp [Function.comp_def]
              rw [he8] at hrun
              simp only [Sem.run_bind, hrun, Result.andThen, Sem.run_pure]
            · cases h
          · cases h
        · cases h
      · cases h
  · cases h

theorem load_ok (hT : TOk P T) (ok : Ok T.gl c) (he : EnvR c e a) {t : TypeId} {p : Operand} (ho : o.op = .load t p) (h : quietOp T e c.H (.load t p) = some x) : Gives P c a o x := by
  simp only [quietOp] at h
  have hx : execOp a.eval o = (do pure (.value (← Instr.loadAt t (a.eval p))) : Sem Next) := by simp only [execOp, ho]
  cases hp : opnd e p with
  | none => simp [hp] at h
  | some u =>
    cases hr : readL T.gl.tab c.H u with
    | none => simp [hp, hr] at h
    | some cs =>
      cases hty : T t with
      | none => simp [hp, hr, hty] at h
      | some ty =>
        simp only [hp, hr, hty, Option.bind_some] at h
        obtain ⟨g, off, xs, h1, h2, h3⟩ := readL_ok ok hr (he.opnd hp)
        obtain ⟨y, h4, h5⟩ := run_loadVar (hT.facts hty) h h2 h3
        refine Gives.mk hx (y := y) ?_ h5
        rw [h1]
        simpa [Instr.loadAt, Instr.sureAddr] using h4

theorem nilCheck_ok (he : EnvR c e a) {p : Operand} (ho : o.op = .nilCheck p) (h : quietOp T e c.H (.nilCheck p) = some x) : Gives P c a o x := by
  simp only [quietOp] at h
  split at h
  all_goals first
    | (cases h; done)
    | (rename_i hp
       obtain rfl := Option.some.inj h
       have hu := he.opnd hp
       refine ⟨a.eval p, ?_, hu⟩
       simp only [R] at hu
       first
         | (obtain ⟨g, -, hu⟩ := hu; simp [execOp, ho, hu]; done)
         | (obtain ⟨g, off, xs, hu, -⟩ := hu; simp [execOp, ho, hu]; done)
         | (obtain ⟨xs, ys, hu, -⟩ := hu; simp [execOp, ho, hu]; done)
         | (simp [execOp, ho, hu]; done))

theorem pick_ok (he : EnvR c e a) {p q r : Operand} (ho : o.op = .pick p q r) (h : quietOp T e c.H (.pick p q r) = some x) : Gives P c a o x := by
  simp only [quietOp] at h
  split at h
  · rename_i t u v hp hq hr
    obtain rfl := Option.some.inj h
    have h1 := he.opnd hp
    simp only [R] at h1
    refine ⟨if t then a.eval q else a.eval r, by simp [execOp, ho, h1, asBool], ?_⟩
    cases t
    · exact he.opnd hr
    · exact he.opnd hq
  · rename_i u hp hq hr
    obtain rfl := Option.some.inj h
    have h1 := he.opnd hp
    simp only [R] at h1
    exact ⟨a.eval q, by simp [execOp, ho, h1, asBool], he.opnd hq⟩
  · rename_i u hp hq hr
    obtain rfl := Option.some.inj h
    have h1 := he.opnd hp
    simp only [R] at h1
    exact ⟨a.eval r, by simp [execOp, ho, h1, asBool], he.opnd hr⟩
  · cases h

theorem extract_ok (he : EnvR c e a) {p : Operand} {i : Nat} (ho : o.op = .extract p i) (h : quietOp T e c.H (.extract p i) = some x) : Gives P c a o x := by
  simp only [quietOp] at h
  have hx : execOp a.eval o = (do pure (.value (← Instr.extract (a.eval p) i)) : Sem Next) := by simp only [execOp, ho]
  split at h
  · rename_i cs hp
    have h1 := he.opnd hp
    simp only [R] at h1
    obtain ⟨xs, h1, h2⟩ := h1
    obtain ⟨y, hy, hr⟩ := h2.get i x h
    refine Gives.mk hx (y := y) ?_ hr
    rw [h1]
    simp [Instr.extract, hy]
  · rename_i xs hp
    have h1 := he.opnd hp
    simp only [R] at h1
    cases hi : xs[i]? with
    | none => simp [hi] at h
    | some y =>
      simp only [hi, Option.map_some, Option.some.injEq] at h
      subst h
      refine Gives.mk hx (y := y) ?_ (ofV_ok y)
      rw [h1]
      simp [Instr.extract, hi]
  · cases h

theorem makeFunc_ok (he : EnvR c e a) {fn : Fn} {p q : Array Operand} (ho : o.op = .makeFunc fn p q) (h : quietOp T e c.H (.makeFunc fn p q) = some x) : Gives P c a o x := by
  simp only [quietOp] at h
  have hx : execOp a.eval o = (do pure (.value (← Instr.makeFunc fn (p.map a.eval) (q.map a.eval))) : Sem Next) := by simp only [execOp, ho]
  split at h
  · rename_i f xs ys h1 h2
    obtain rfl := Option.some.inj h
    refine Gives.mk hx (y := _) rfl ?_
    rw [R]
    exact ⟨p.toList.map a.eval, q.toList.map a.eval, by simp [← Array.toList_map], he.opnds h1, he.opnds h2⟩
  · cases h
end
end Go.Proofs.YtijpomemobgddaaGreatDoor.Ev
namespace Go.Proofs.YtijpomemobgddaaGreatDoor.Ev
open Go Go.RowKit
variable {P : Program} {T : Tb}

theorem kOf_struct {d : TypeDesc} {fs : List (TypeId × Nat × Bool)} (h : kOf d = .struct fs) : ∃ fds : Array Field, d = .struct fds ∧ fds.toList.map (fun f => (f.type, f.offset, f.name != "_")) = fs := by
  cases d with
  | struct fds => simp only [kOf, K.struct.injEq] at h; exact ⟨fds, rfl, h⟩
  | _ => simp [kOf] at h
theorem kOf_slice {d : TypeDesc} {e : TypeId} (h : kOf d = .slice e) : d = .slice e := by
  cases d <;> simp [kOf] at h
  rw [h]
theorem kOf_array {d : TypeDesc} {n : Nat} {e : TypeId} (h : kOf d = .array n e) : d = .array n e := by
  cases d <;> simp [kOf] at h
  rw [h.1, h.2]
theorem kOf_str {d : TypeDesc} (h : kOf d = .str) : d = .string := by
  cases d <;> simp [kOf] at h
  rfl

section
variable {c : Cfg} {e : Env} {a : Act} {o : Oper} {x : A}

theorem field_of {fds : Array Field} {fs : List (TypeId × Nat × Bool)} (hf : fds.toList.map (fun f => (f.type, f.offset, f.name != "_")) = fs) {i : Nat} {t : TypeId} {off : Nat} {b : Bool} (h : fs[i]? = some (t, off, b)) :
    ∃ f, fds[i]? = some f ∧ f.type = t ∧ f.offset = off := by
  subst hf
  rw [List.getElem?_map] at h
  cases hh : fds.toList[i]? with
  | none => simp [hh] at h
  | some f =>
    simp only [hh, Option.map_some, Option.some.injEq, Prod.mk.injEq] at h
    exact ⟨f, by simpa using hh, h.1, h.2.1⟩

theorem fieldAddr_ok (hT : TOk P T) (he : EnvR c e a) {t : TypeId} {p : Operand} {i : Nat} (ho : o.op = .fieldAddr t p i) (h : quietOp T e c.H (.fieldAddr t p i) = some x) : Gives P c a o x := by
  simp only [quietOp] at h
  have hx : execOp a.eval o = (do pure (.value (← Instr.fieldAt t (a.eval p) i)) : Sem Next) := by simp only [execOp, ho]
  split at h
  · rename_i ty u hty hp
    split at h
    · rename_i fs hk
      split at h
      · rename_i ft off b hf
        split at h
        · rename_i fty hft
          split at h
          · rename_i hsz
            obtain ⟨d, hd, hkd⟩ := (hT.facts hty).desc
            rw [hk] at hkd
            obtain ⟨fds, rfl, hfs⟩ := kOf_struct hkd
            obtain ⟨f, hf1, hf2, hf3⟩ := field_of hfs hf
            have hs := (hT.facts hft).run_sizeOf c.w
            rw [← hf2] at hs
            have hn : ¬ fty.size = 0 := by omega
            have hu := he.opnd hp
            split at h
            · rename_i b0 o0
              obtain rfl := Option.some.inj h
              simp only [R] at hu
              obtain ⟨g, hg, hu, hsh⟩ := hu
              refine Gives.mk hx (y := .pointer (some ⟨g, o0 + off, none⟩)) ?_ (by rw [R]; exact ⟨g, hg, rfl, hsh⟩)
              rw [hu]
              simp [Instr.fieldAt, run_underlying hd, hf1, Instr.sureAddr, fieldPlace, hs, hn, hf3, Addr.add_lit]
            · rename_i cs
              obtain rfl := Option.some.inj h
              simp only [R] at hu
              obtain ⟨g, o1, xs, hu, h2, h3, h4, h5⟩ := hu
              refine Gives.mk hx (y := .pointer (some ⟨g, o1 + off, none⟩)) ?_ (by rw [R]; exact ⟨g, o1 + off, xs.drop off, rfl, h2, h3, h4.drop _, h5.drop _⟩)
              rw [hu]
              simp [Instr.fieldAt, run_underlying hd, hf1, Instr.sureAddr, fieldPlace, hs, hn, hf3, Addr.add_lit]
            · cases h
          · cases h
        · cases h
      · cases h
    · cases h
  · cases h

theorem field_ok (hT : TOk P T) (he : EnvR c e a) {t : TypeId} {p : Operand} {i : Nat} (ho : o.op = .field t p i) (h : quietOp T e c.H (.field t p i) = some x) : Gives P c a o x := by
  simp only [quietOp] at h
  have hx : execOp a.eval o = (do pure (.value (← Instr.field t (a.eval p) i)) : Sem Next) := by simp only [execOp, ho]
  split at h
  · rename_i ty cs hty hp
    split at h
    · rename_i fs hk
      split at h
      · rename_i ft off b hf
        split at h
        · rename_i fty hft
          obtain ⟨d, hd, hkd⟩ := (hT.facts hty).desc
          rw [hk] at hkd
          obtain ⟨fds, rfl, hfs⟩ := kOf_struct hkd
          obtain ⟨f, hf1, hf2, hf3⟩ := field_of hfs hf
          have hu := he.opnd hp
          simp only [R] at hu
          obtain ⟨xs, hu, h2⟩ := hu
          obtain ⟨y, h3, h4⟩ := run_part (hT.facts hft) h h2
          refine Gives.mk hx (y := y) ?_ h4
          rw [hu]
          simp [Instr.field, run_underlying hd, hf1, asAgg, hf2, hf3, h3]
        · cases h
      · cases h
    · cases h
  · cases h

theorem index_ok (hT : TOk P T) (he : EnvR c e a) {t : TypeId} {p q : Operand} (ho : o.op = .index t p q) (h : quietOp T e c.H (.index t p q) = some x) : Gives P c a o x := by
  simp only [quietOp] at h
  have hx : execOp a.eval o = (do pure (.value (← Instr.index t (a.eval p) (a.eval q))) : Sem Next) := by simp only [execOp, ho]
  split at h
  · rename_i ty u k n hty hp hq
    obtain ⟨d, hd, hkd⟩ := (hT.facts hty).desc
    have hu := he.opnd hp
    have hv := he.opnd hq
    simp only [R] at hv
    split at h
    · rename_i len el hk
      rw [hk] at hkd
      obtain rfl := kOf_array hkd
      split at h
      · rename_i te cs hte
        split at h
        · rename_i hb
          simp only [R] at hu
          obtain ⟨xs, hu, h2⟩ := hu
          obtain ⟨y, h3, h4⟩ := run_part (hT.facts hte) h h2
          refine Gives.mk hx (y := y) ?_ h4
          rw [hu, hv]
          simp [Instr.index, asIntOf, run_underlying hd, hb, (hT.facts hte).run_sizeOf, h3]
        · cases h
      · cases h
    · rename_i hk
      rw [hk] at hkd
      obtain rfl := kOf_str hkd
      split at h
      · rename_i s
        split at h
        · rename_i hb
          simp only [R] at hu
          cases hs : s[n.toNat]? with
          | none => simp [hs] at h
          | some b =>
            simp only [hs, Option.map_some, Option.some.injEq] at h
            subst h
            refine Gives.mk hx (y := .int .u8 b.toNat) ?_ (by rw [R])
            rw [hu, hv]
            simp [Instr.index, asIntOf, run_underlying hd, hb, hs]
        · cases h
      · cases h
    · cases h
  · cases h

theorem indexAddr_ok (hT : TOk P T) (he : EnvR c e a) {t : TypeId} {p q : Operand} (ho : o.op = .indexAddr t p q) (h : quietOp T e c.H (.indexAddr t p q) = some x) : Gives P c a o x := by
  simp only [quietOp] at h
  have hx : execOp a.eval o = (do pure (.value (← Instr.indexAt t (a.eval p) (a.eval q))) : Sem Next) := by simp only [execOp, ho]
  split at h
  · rename_i ty u k n hty hp hq
    obtain ⟨d, hd, hkd⟩ := (hT.facts hty).desc
    have hu := he.opnd hp
    have hv := he.opnd hq
    simp only [R] at hv
    split at h
    · rename_i el hk
      rw [hk] at hkd
      obtain rfl := kOf_slice hkd
      split at h
      · rename_i te hte
        have hs := (hT.facts hte).run_sizeOf c.w
        split at h
        · rename_i b off len sz
          split at h
          · rename_i hb
            obtain rfl := Option.some.inj h
            simp only [R] at hu
            obtain ⟨g, cap, cur, e', fz, hg, hu, -, -, hcl, -⟩ := hu
            have hsh : ∃ cur e fz, c.w.heap[g]? = some (.cells cur e fz) := ⟨cur, e', fz, hcl⟩
            refine Gives.mk hx (y := .pointer (some ⟨g, off + n.toNat * te.size, none⟩)) ?_ (by rw [R]; exact ⟨g, hg, rfl, hsh⟩)
            rw [hu, hv]
            simp [Instr.indexAt, asIntOf, run_underlying hd, hb.1, hb.2.1, hs, Addr.add_lit]
          · cases h
        · rename_i len cs
          split at h
          · rename_i hb
            obtain rfl := Option.some.inj h
            simp only [R] at hu
            rcases hu with ⟨hu, -⟩ | ⟨g, off, cap, xs, hu, -, h2, h3, h4, h5⟩
            · omega
            · refine Gives.mk hx (y := .pointer (some ⟨g, off + n.toNat * te.size, none⟩)) ?_ (by rw [R]; exact ⟨g, _, xs.drop (n.toNat * te.size), rfl, h2, h3, h4.drop _, h5.drop _⟩)
              rw [hu, hv]
              simp [Instr.indexAt, asIntOf, run_underlying hd, hb.1, hb.2, hs, Addr.add_lit]
          · cases h
        · cases h
      · cases h
    · rename_i len el hk
      rw [hk] at hkd
      obtain rfl := kOf_array hkd
      split at h
      · rename_i te hte
        have hs := (hT.facts hte).run_sizeOf c.w
        split at h
        · rename_i hb
          split at h
          · rename_i b off
            obtain rfl := Option.some.inj h
            simp only [R] at hu
            obtain ⟨g, hg, hu, hsh⟩ := hu
            refine Gives.mk hx (y := .pointer (some ⟨g, off + n.toNat * te.size, none⟩)) ?_ (by rw [R]; exact ⟨g, hg, rfl, hsh⟩)
            rw [hu, hv]
            simp [Instr.indexAt, asIntOf, run_underlying hd, Instr.sureAddr, hb.1, hb.2, hs, Addr.add_lit]
          · rename_i g off
            obtain rfl := Option.some.inj h
            simp only [R] at hu
            refine Gives.mk hx (y := .pointer (some ⟨g, off + n.toNat * te.size, none⟩)) ?_ (by rw [R])
            rw [hu, hv]
            simp [Instr.indexAt, asIntOf, run_underlying hd, Instr.sureAddr, hb.1, hb.2, hs, Addr.add_lit]
          · rename_i cs
            obtain rfl := Option.some.inj h
            simp only [R] at hu
            obtain ⟨g, o1, xs, hu, h2, h3, h4, h5⟩ := hu
            refine Gives.mk hx (y := .pointer (some ⟨g, o1 + n.toNat * te.size, none⟩)) ?_ (by rw [R]; exact ⟨g, _, xs.drop (n.toNat * te.size), rfl, h2, h3, h4.drop _, h5.drop _⟩)
            rw [hu, hv]
            simp [Instr.indexAt, asIntOf, run_underlying hd, Instr.sureAddr, hb.1, hb.2, hs, Addr.add_lit]
          · cases h
        · cases h
      · cases h
    · cases h
  · cases h
end
end Go.Proofs.YtijpomemobgddaaGreatDoor.Ev
