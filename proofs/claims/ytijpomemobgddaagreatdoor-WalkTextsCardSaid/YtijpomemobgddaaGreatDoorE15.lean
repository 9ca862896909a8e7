/- What an operation looks at; growth; values without a way into live blocks. -/
import Derived.Test.YtijpomemobgddaaGreatDoorE14
import Derived.RangeFuncNested
set_option linter.unusedSimpArgs false
set_option linter.unusedVariables false
namespace Go.Proofs.YtijpomemobgddaaGreatDoor.Ev
open Go Go.RowKit
variable {P : Program} {T : Tb}

/-- The slots that an operation looks at. -/
def slotsOf (op : Op) : List Nat := op.operands.toList.filterMap fun | .tmp t => some t | _ => none
def Agree (l : List Operand) (e e' : Env) : Prop := ∀ x ∈ l, opnd e x = opnd e' x
theorem Agree.opnds {e e' : Env} : ∀ {l : List Operand}, Agree l e e' → opnds e l = opnds e' l
  | [], _ => rfl
  | x :: l, h => by
    unfold Ev.opnds
    rw [h x (.head _), Agree.opnds (l := l) (fun y hy => h y (.tail _ hy))]
theorem Agree.parts {e e' : Env} : ∀ {l : List (Nat × Operand)}, Agree (l.map (·.2)) e e' → partsA e l = partsA e' l
  | [], _ => rfl
  | (i, x) :: l, h => by
    unfold partsA
    rw [h x (by simp), Agree.parts (l := l) (fun y hy => h y (by simp only [List.map_cons]; exact .tail _ hy))]
theorem Agree.opt {e e' : Env} {o : Option Operand} (h : Agree o.toList e e') : opndO e o = opndO e' o := by
  cases o with
  | none => rfl
  | some x =>
    simp only [opndO]
    rw [h x (by simp)]

theorem quiet_congr {e e' : Env} {H : Heap} {op : Op} (h : Agree op.operands.toList e e') : quietOp T e H op = quietOp T e' H op := by
  cases op with
  | move x => exact h x (by simp [Op.operands])
  | assign x => exact h x (by simp [Op.operands])
  | pick c a b => simp only [quietOp]; rw [h c (by simp [Op.operands]), h a (by simp [Op.operands]), h b (by simp [Op.operands])]
  | build t ps =>
    simp only [quietOp]
    rw [Agree.parts (l := ps.toList) (by simpa [Op.operands] using h)]
  | load t x => simp only [quietOp]; rw [h x (by simp [Op.operands])]
  | nilCheck x => simp only [quietOp]; rw [h x (by simp [Op.operands])]
  | binOp b t x y t' => simp only [quietOp]; rw [h x (by simp [Op.operands]), h y (by simp [Op.operands])]
  | unOp b t x => simp only [quietOp]; rw [h x (by simp [Op.operands])]
  | convert t t' x => simp only [quietOp]; rw [h x (by simp [Op.operands])]
  | fieldAddr t x i => simp only [quietOp]; rw [h x (by simp [Op.operands])]
  | field t x i => simp only [quietOp]; rw [h x (by simp [Op.operands])]
  | indexAddr t x y => simp only [quietOp]; rw [h x (by simp [Op.operands]), h y (by simp [Op.operands])]
  | index t x y => simp only [quietOp]; rw [h x (by simp [Op.operands]), h y (by simp [Op.operands])]
  | slice t x lo hi mx =>
    simp only [quietOp]
    have h1 : opndO e lo = opndO e' lo := Agree.opt fun y hy => h y (by simp [Op.operands]; simp at hy; simp [hy])
    have h2 : opndO e hi = opndO e' hi := Agree.opt fun y hy => h y (by simp [Op.operands]; simp at hy; simp [hy])
    rw [h x (by simp [Op.operands]), h1, h2]
  | extract x i => simp only [quietOp]; rw [h x (by simp [Op.operands])]
  | lookup t x y b => simp only [quietOp]; rw [h x (by simp [Op.operands]), h y (by simp [Op.operands])]
  | makeFunc f a b =>
    simp only [quietOp]
    rw [Agree.opnds (l := a.toList) (fun y hy => h y (by simp [Op.operands]; simp at hy; simp [hy])), Agree.opnds (l := b.toList) (fun y hy => h y (by simp [Op.operands]; simp at hy; simp [hy]))]
  | call cl =>
    simp only [quietOp]
    rw [Agree.opnds (l := cl.args.toList) (fun y hy => h y (by simp [Op.operands, Call.operands]; simp at hy; simp [hy]))]
  | _ => rfl
theorem calls_congr {e e' : Env} {op : Op} (h : Agree op.operands.toList e e') : calls e op = calls e' op := by
  cases op with
  | call cl =>
    cases hc : cl.callee with
    | value f =>
      simp only [calls, hc]
      rw [Agree.opnds (l := cl.args.toList) (fun y hy => h y (by simp [Op.operands, Call.operands]; simp at hy; simp [hy])), h f (by simp [Op.operands, Call.operands, hc])]
    | _ => simp [calls, hc]
  | _ => rfl
theorem lit_congr {e e' : Env} {t : TypeId} {n : Nat} {ps : Array (Nat × Operand)} (h : Agree (Op.buildSlice t n ps).operands.toList e e') : litCells T e t n ps = litCells T e' t n ps := by
  unfold litCells
  rw [Agree.parts (l := ps.toList) (by simpa [Op.operands] using h)]

theorem look_keepE (e : Env) : ∀ (l : List Nat) (t : Nat), look (keepE e l) t = if t ∈ l then look e t else none
  | [], t => by simp [keepE, look]
  | s :: l, t => by
    have ih := look_keepE e l t
    unfold keepE
    cases hs : look e s with
    | none =>
      simp only
      rw [ih]
      by_cases hts : t = s
      · subst hts
        simp [hs]
      · simp [hts]
    | some x =>
      simp only [look]
      by_cases hts : t = s
      · subst hts
        simp [hs]
      · have : Nat.beq s t = false := by
          cases hb : Nat.beq s t with
          | false => rfl
          | true => exact absurd (Nat.eq_of_beq_eq_true hb).symm hts
        simp [this, ih, hts]
theorem agree_keep (e : Env) (op : Op) : Agree op.operands.toList e (keepE e (slotsOf op)) := by
  intro x hx
  cases x with
  | tmp t =>
    simp only [opnd]
    rw [look_keepE, if_pos]
    unfold slotsOf
    exact List.mem_filterMap.2 ⟨_, hx, rfl⟩
  | _ => rfl

/-- Nothing that was there has changed. -/
abbrev Grow (w w' : World) : Prop := Below w.heap.size w w'
theorem grow_keeps {ρ : List Nat} {own : Nat → Prop} {w w' : World} (h : Grow w w') : Keeps ρ own w ρ own w' :=
  ⟨List.prefix_rfl, Below.size h, fun g hg ho => ⟨ho, h.block g hg⟩, fun g cur e fz hc => ⟨cur, fz, (h.block g (Array.getElem?_eq_some_iff.1 hc).1).trans hc, rfl⟩, fun g es n hc => ⟨es, n, (h.block g (Array.getElem?_eq_some_iff.1 hc).1).trans hc⟩, fun g o hc _ => ⟨o, (h.block g (Array.getElem?_eq_some_iff.1 hc).1).trans hc, rfl⟩⟩
theorem Ok.grow {c : Cfg} (ok : Ok T.gl c) {w' : World} (h : Grow c.w w') : To c ⟨c.ρ, c.own, c.H, w'⟩ ∧ Ok T.gl ⟨c.ρ, c.own, c.H, w'⟩ := by
  have hto : To c ⟨c.ρ, c.own, c.H, w'⟩ :=
    ⟨List.prefix_rfl, Below.size h, h.os, h.tape, h.output, fun _ _ h => h, fun g hg _ => h.block g hg, fun g cur e fz hc => ⟨cur, fz, (h.block g (Array.getElem?_eq_some_iff.1 hc).1).trans hc, rfl⟩, fun g es n hc => ⟨es, n, (h.block g (Array.getElem?_eq_some_iff.1 hc).1).trans hc⟩, fun g o hc _ => ⟨o, (h.block g (Array.getElem?_eq_some_iff.1 hc).1).trans hc, rfl⟩, fun _ _ => Iff.rfl⟩
  refine ⟨hto, ⟨ok.len, fun g hg => Nat.lt_of_lt_of_le (ok.lt g hg) (Below.size h), ok.img, fun b e cs wh g hb hg => ?_, ok.inj, hto.glob ok⟩⟩
  exact (ok.blk b e cs wh g hb hg).keep (hto.keeps ok) (h.block g (ok.lt_blk hb hg))
/-- Where nothing is live, a step is growth. -/
theorem To.grows {c c' : Cfg} (h : To c c') (hn : ∀ g, ¬ Ev.img c.ρ c.H g) : Grow c.w c'.w := { size := h.size, block := fun k hk => h.same k hk (hn k), os := h.os, tape := h.tape, output := h.output }

mutual
theorem shut_ok {ρ : List Nat} {own : Nat → Prop} {w : World} : ∀ (a : A) (y : Value), shut a = true → R ρ own w a y → R [] own w a y
  | .v x, y, _, h => by rw [R] at *; exact h
  | .agg cs, y, hs, h => by
    rw [R] at *
    obtain ⟨xs, h1, h2⟩ := h
    exact ⟨xs, h1, shutL_ok cs xs (by simpa [shut] using hs) h2⟩
  | .tup cs, y, hs, h => by
    rw [R] at *
    obtain ⟨xs, h1, h2⟩ := h
    exact ⟨xs, h1, shutL_ok cs xs (by simpa [shut] using hs) h2⟩
  | .ptr b off, y, hs, _ => by simp [shut] at hs
  | .mp b, y, hs, _ => by simp [shut] at hs
  | .yl b, y, hs, _ => by simp [shut] at hs
  | .lrec nt ps sl a b, y, hs, _ => by simp [shut] at hs
  | .it b, y, hs, _ => by simp [shut] at hs
  | .its s p, y, hs, _ => by simp [shut] at hs
  | .mf cs, y, _, h => by rw [R] at *; exact h
  | .ref b off len sz, y, hs, _ => by simp [shut] at hs
  | .sl len cs, y, _, h => by rw [R] at *; exact h
  | .fp cs, y, _, h => by rw [R] at *; exact h
  | .clo f fs caps, y, hs, h => by
    rw [R] at *
    obtain ⟨xs, ys, h1, h2, h3⟩ := h
    simp only [shut, Bool.and_eq_true] at hs
    exact ⟨xs, ys, h1, shutL_ok fs xs hs.1 h2, shutL_ok caps ys hs.2 h3⟩
theorem shutL_ok {ρ : List Nat} {own : Nat → Prop} {w : World} : ∀ (cs : List A) (ys : List Value), shut.shutL cs = true → RL ρ own w cs ys → RL [] own w cs ys
  | [], ys, _, h => by rw [RL] at *; exact h
  | c :: cs, ys, hs, h => by
    simp only [shut.shutL, Bool.and_eq_true] at hs
    rw [RL] at *
    obtain ⟨x, xs, h1, h2, h3⟩ := h
    exact ⟨x, xs, h1, shut_ok c x hs.1 h2, shutL_ok cs xs hs.2 h3⟩
end
mutual
theorem flat_ok {ρ ρ' : List Nat} {own own' : Nat → Prop} {w w' : World} : ∀ (a : A) (y : Value), flat a = true → R ρ own w a y → R ρ' own' w' a y
  | .v x, y, _, h => by rw [R] at *; exact h
  | .agg cs, y, hs, h => by
    rw [R] at *
    obtain ⟨xs, h1, h2⟩ := h
    exact ⟨xs, h1, flatL_ok cs xs (by simpa [flat] using hs) h2⟩
  | .tup cs, y, hs, h => by
    rw [R] at *
    obtain ⟨xs, h1, h2⟩ := h
    exact ⟨xs, h1, flatL_ok cs xs (by simpa [flat] using hs) h2⟩
  | .ptr b off, y, hs, _ => by simp [flat] at hs
  | .mp b, y, hs, _ => by simp [flat] at hs
  | .yl b, y, hs, _ => by simp [flat] at hs
  | .lrec nt ps sl a b, y, hs, _ => by simp [flat] at hs
  | .it b, y, hs, _ => by simp [flat] at hs
  | .its s p, y, hs, _ => by simp [flat] at hs
  | .mf cs, y, hs, _ => by simp [flat] at hs
  | .ref b off len sz, y, hs, _ => by simp [flat] at hs
  | .sl len cs, y, hs, h => by
    simp only [flat, Bool.and_eq_true, Nat.beq_eq, List.isEmpty_iff] at hs
    obtain ⟨rfl, rfl⟩ := hs
    rw [R] at *
    left
    rcases h with h | ⟨g, off, cap, xs, h1, -⟩
    · exact h
    · exact ⟨rfl, rfl, _, _, h1⟩
  | .fp cs, y, hs, _ => by simp [flat] at hs
  | .clo f fs caps, y, hs, h => by
    rw [R] at *
    obtain ⟨xs, ys, h1, h2, h3⟩ := h
    simp only [flat, Bool.and_eq_true] at hs
    exact ⟨xs, ys, h1, flatL_ok fs xs hs.1 h2, flatL_ok caps ys hs.2 h3⟩
theorem flatL_ok {ρ ρ' : List Nat} {own own' : Nat → Prop} {w w' : World} : ∀ (cs : List A) (ys : List Value), flat.flatL cs = true → RL ρ own w cs ys → RL ρ' own' w' cs ys
  | [], ys, _, h => by rw [RL] at *; exact h
  | c :: cs, ys, hs, h => by
    simp only [flat.flatL, Bool.and_eq_true] at hs
    rw [RL] at *
    obtain ⟨x, xs, h1, h2, h3⟩ := h
    exact ⟨x, xs, h1, flat_ok c x hs.1 h2, flatL_ok cs xs hs.2 h3⟩
end
end Go.Proofs.YtijpomemobgddaaGreatDoor.Ev
namespace Go.Proofs.YtijpomemobgddaaGreatDoor.Ev
open Go Go.RowKit
variable {P : Program} {T : Tb}

theorem freeze_shut {H : Heap} : ∀ n : Nat, (∀ (a r : A), freeze H n a = some r → shut a = true → r = a) ∧ (∀ (cs rs : List A), mapO (freeze H n) cs = some rs → shut.shutL cs = true → rs = cs) := by
  intro n
  induction n with
  | zero =>
    refine ⟨fun a r h => by simp [freeze] at h, fun cs => ?_⟩
    cases cs with
    | nil => intro rs h _; simp [mapO] at h; rw [h]
    | cons c cs => intro rs h _; unfold mapO at h; simp [freeze] at h
  | succ n ih =>
    have hA : ∀ (a r : A), freeze H (n + 1) a = some r → shut a = true → r = a := by
      intro a r h hs
      cases a with
      | v x => simpa [freeze, eq_comm] using h
      | sl len cs => simpa [freeze, eq_comm] using h
      | fp cs => simpa [freeze, eq_comm] using h
      | mf cs => simpa [freeze, eq_comm] using h
      | mp b => simp [shut] at hs
      | yl b => simp [shut] at hs
      | lrec nt ps sl a b => simp [shut] at hs
      | it b => simp [shut] at hs
      | its s p => simp [shut] at hs
      | ptr b off => simp [shut] at hs
      | ref b off len sz => simp [shut] at hs
      | agg cs =>
        simp only [freeze] at h
        cases hf : mapO (freeze H n) cs with
        | none => simp [hf] at h
        | some rs =>
          simp only [hf, Option.map_some, Option.some.injEq] at h
          rw [← h, ih.2 cs rs hf (by simpa [shut] using hs)]
      | tup cs =>
        simp only [freeze] at h
        cases hf : mapO (freeze H n) cs with
        | none => simp [hf] at h
        | some rs =>
          simp only [hf, Option.map_some, Option.some.injEq] at h
          rw [← h, ih.2 cs rs hf (by simpa [shut] using hs)]
      | clo f fs caps =>
        simp only [freeze] at h
        simp only [shut, Bool.and_eq_true] at hs
        cases hf : mapO (freeze H n) fs with
        | none => simp [hf] at h
        | some rs =>
          cases hf' : mapO (freeze H n) caps with
          | none => simp [hf, hf'] at h
          | some rs' =>
            simp only [hf, hf', Option.some.injEq] at h
            rw [← h, ih.2 fs rs hf hs.1, ih.2 caps rs' hf' hs.2]
    refine ⟨hA, fun cs => ?_⟩
    induction cs with
    | nil => intro rs h _; simp [mapO] at h; rw [h]
    | cons c cs ihc =>
      intro rs h hs
      unfold mapO at h
      simp only [shut.shutL, Bool.and_eq_true] at hs
      cases h1 : freeze H (n + 1) c with
      | none => simp [h1] at h
      | some r1 =>
        cases h2 : mapO (freeze H (n + 1)) cs with
        | none => simp [h1, h2] at h
        | some r2 =>
          simp only [h1, h2, Option.some.injEq] at h
          rw [← h, hA c r1 h1 hs.1, ihc r2 h2 hs.2]

theorem lend_ok {c : Cfg} (ok : Ok T.gl c) {own : Nat → Prop} (ho : ∀ g, own g → c.own g ∧ ¬ img c.ρ c.H g) : ∀ (as rs : List A) (ys : List Value), lendL c.H as = some rs → RL c.ρ c.own c.w as ys → RL [] own c.w rs ys
  | [], rs, ys, h, hr => by
    simp [lendL] at h
    subst h
    rw [RL] at *
    exact hr
  | a :: as, rs, ys, h, hr => by
    unfold lendL at h
    cases h1 : freeze c.H 20 a with
    | none => simp [h1] at h
    | some r1 =>
      cases h2 : lendL c.H as with
      | none => simp [h1, h2] at h
      | some r2 =>
        simp only [h1, h2, Option.some.injEq] at h
        subst h
        rw [RL] at hr
        obtain ⟨x, xs, rfl, h3, h4⟩ := hr
        exact RL.cons ((freeze_ok ok ho 20).1 a r1 x h1 h3) (lend_ok ok ho as r2 xs h2 h4)
theorem lend_shut {c : Cfg} : ∀ (as rs : List A) (ys : List Value), lendL c.H as = some rs → as.all shut = true → RL c.ρ c.own c.w as ys → RL [] c.own c.w rs ys
  | [], rs, ys, h, _, hr => by
    simp [lendL] at h
    subst h
    rw [RL] at *
    exact hr
  | a :: as, rs, ys, h, hs, hr => by
    unfold lendL at h
    simp only [List.all_cons, Bool.and_eq_true] at hs
    cases h1 : freeze c.H 20 a with
    | none => simp [h1] at h
    | some r1 =>
      cases h2 : lendL c.H as with
      | none => simp [h1, h2] at h
      | some r2 =>
        simp only [h1, h2, Option.some.injEq] at h
        subst h
        rw [RL] at hr
        obtain ⟨x, xs, rfl, h3, h4⟩ := hr
        rw [(freeze_shut 20).1 a r1 h1 hs.1]
        exact RL.cons (shut_ok a x hs.1 h3) (lend_shut as r2 xs h2 hs.2 h4)

/-- The fence that lets all in, for a round or none. -/
def Wd (r : Option Nat) : Fence := { Fence.wide with round := r }
theorem Wd.fn (r : Option Nat) (f : FuncId) : (Wd r).fn f := trivial
theorem Wd.depth (r : Option Nat) : (Wd r).depth = none := rfl
theorem callsIn_Wd {r : Option Nat} {n : Nat} {f : FuncId} {args : Array Value} {w : World} {R : Ending → World → Prop} (h : Go.Calls P f args w R) : CallsIn (Wd r) n P f args w R :=
  (callsIn_wide (n := n)).2 h

/-- A call of it enters its body. -/
def Enters (P : Program) (f : FuncId) : Prop := ∀ args w, (callFunc f args).run P w = .ok (.enter f args) w
/-- A call of it gives a value at once. -/
def AtOnce (P : Program) (f : FuncId) (as : List A) (r : A) : Prop := ∀ (ρ : List Nat) (own : Nat → Prop) (w : World) (ys : List Value), RL ρ own w as ys → ∃ v, (callFunc f ys.toArray).run P w = .ok (.value v) w ∧ R ρ own w r v
def QOk (T : Tb) (P : Program) (q : OrcQ) : Prop := ∀ f as r, q f as = some r → AtOnce P f as r ∨ Enters P f ∧ ∀ (own : Nat → Prop) (w : World) (ys : List Value), (∀ g, own g → g < w.heap.size) → Gl T.gl own w → RL [] own w as ys →
  Go.Calls P f ys.toArray w fun e w' => ∃ v, e = .returned v ∧ Grow w w' ∧ R [] own w' r v
/-- What is asked behind a call or a round. -/
def Back (T : Tb) (c : Cfg) (x : A) (H' : Heap) (e : Ending) (w' : World) : Prop := ∃ v c', e = .returned v ∧ c'.w = w' ∧ c'.H = H' ∧ To c c' ∧ Ok T.gl c' ∧ R c'.ρ c'.own c'.w x v
def roundTmps (r : Loop) (args : Array Value) : Array Value := (r.params.zip args).foldl (fun tmps (t, a) => tmps.setIfInBounds t a) r.tmps
/-- A call in the caller's live blocks. -/
def FnOut (T : Tb) (P : Program) (f : FuncId) (as : List A) (H : Heap) (x : A) (H' : Heap) : Prop := (∃ as', lendL H as = some as' ∧ H' = H ∧ (as.all shut || flat x) = true ∧ AtOnce P f as' x) ∨ Enters P f ∧ ∀ (c : Cfg) (ys : List Value), c.H = H → Ok T.gl c → RL c.ρ c.own c.w as ys → Go.Calls P f ys.toArray c.w (Back T c x H')
structure OOk (T : Tb) (P : Program) (o : Orc) : Prop where
  fn : ∀ f as H x H', o (.fn f) as H = some (x, H') → FnOut T P f as H x H'
  yl : ∀ b as H x H', o (.yl b) as H = some (x, H') → ∀ (c : Cfg) (ys : List Value) (l : Nat), c.H = H → Ok T.gl c → RL c.ρ c.own c.w as ys → c.ρ[b]? = some l →
    ∃ rec, c.w.heap[l]? = some (.loop rec) ∧ ys.length = rec.params.size ∧ ∀ (r : Option Nat) (n : Nat), RoundIn (Wd r) n P l rec.fn (roundTmps rec ys.toArray) rec.assign rec.body c.w (Back T c x H')

section
variable {c : Cfg} {e : Env} {a : Act} {o : Oper}
theorem calls_ok (he : EnvR c e a) {f : FuncId} {as : List A} (h : calls e o.op = some (.fn f, as)) : ∃ ys, RL c.ρ c.own c.w as ys ∧ ∀ w, (execOp a.eval o).run P w = (callFunc f ys.toArray).run P w := by
  cases ho : o.op with
  | call cl =>
    rw [ho] at h
    cases hc : cl.callee with
    | value p =>
      simp only [calls, hc] at h
      cases hp : opnd e p with
      | none => simp [hp] at h
      | some u =>
        cases hcal : callee u with
        | none => simp [hp, hcal] at h
        | some r =>
          obtain ⟨g, fs, caps⟩ := r
          cases has : opnds e cl.args.toList with
          | none => simp [hp, hcal, has] at h
          | some as' =>
            simp only [hp, hcal, has, Option.bind_some, Option.some.injEq, Prod.mk.injEq] at h
            obtain ⟨rfl, rfl⟩ := h
            have hu := he.opnd hp
            have hargs := he.opnds has
            have hfin : ∃ xs ys : List Value, a.eval p = .func (.func f) xs.toArray ys.toArray ∧ RL c.ρ c.own c.w fs xs ∧ RL c.ρ c.own c.w caps ys := by
              unfold callee at hcal
              split at hcal
              · rename_i f' fs' caps'
                split at hcal
                · rename_i hem
                  simp only [Option.some.injEq, Prod.mk.injEq, Tgt.fn.injEq] at hcal
                  obtain ⟨rfl, rfl, rfl⟩ := hcal
                  simp only [Bool.and_eq_true, Array.isEmpty_iff] at hem
                  obtain ⟨rfl, rfl⟩ := hem
                  rw [R] at hu
                  exact ⟨[], [], hu, RL.nil, RL.nil⟩
                · cases hcal
              · simp only [Option.some.injEq, Prod.mk.injEq, Tgt.fn.injEq] at hcal
                obtain ⟨rfl, rfl, rfl⟩ := hcal
                rw [R] at hu
                exact hu
              · simp at hcal
              · cases hcal
            obtain ⟨xs, ys, h1, h2, h3⟩ := hfin
            refine ⟨xs ++ cl.args.toList.map a.eval ++ ys, (h2.append hargs).append h3, fun w => ?_⟩
            have hl : (xs.toArray ++ cl.args.map a.eval ++ ys.toArray) = (xs ++ cl.args.toList.map a.eval ++ ys).toArray := by
              apply Array.ext'
              simp
            simp only [execOp, ho, resolve, hc, h1, Deferred.ofValue, Sem.run_bind, Sem.run_pure, Result.andThen_ok, invoke]
            rw [hl]
    | _ => simp [calls, hc] at h
  | _ => rw [ho] at h; simp [calls] at h

theorem yields_ok (he : EnvR c e a) {b : Nat} {as : List A} (h : calls e o.op = some (.yl b, as)) : ∃ l ys, c.ρ[b]? = some l ∧ RL c.ρ c.own c.w as ys ∧ ∀ w, (execOp a.eval o).run P w = (Instr.yield l ys.toArray).run P w := by
  cases ho : o.op with
  | call cl =>
    rw [ho] at h
    cases hc : cl.callee with
    | value p =>
      simp only [calls, hc] at h
      cases hp : opnd e p with
      | none => simp [hp] at h
      | some u =>
        cases hcal : callee u with
        | none => simp [hp, hcal] at h
        | some r =>
          obtain ⟨g, fs, caps⟩ := r
          cases has : opnds e cl.args.toList with
          | none => simp [hp, hcal, has] at h
          | some as' =>
            simp only [hp, hcal, has, Option.bind_some, Option.some.injEq, Prod.mk.injEq] at h
            obtain ⟨rfl, rfl⟩ := h
            have hu := he.opnd hp
            have hargs := he.opnds has
            unfold callee at hcal
            split at hcal
            · split at hcal <;> simp at hcal
            · simp at hcal
            · simp only [Option.some.injEq, Prod.mk.injEq, Tgt.yl.injEq] at hcal
              obtain ⟨rfl, rfl, rfl⟩ := hcal
              rw [R] at hu
              obtain ⟨l, h1, h2, -⟩ := hu
              refine ⟨l, cl.args.toList.map a.eval, h1, by simpa using hargs, fun w => ?_⟩
              have hl : (cl.args.toList.map a.eval).toArray = #[] ++ cl.args.map a.eval := by
                apply Array.ext'
                simp
              rw [hl]
              simp only [execOp, ho, resolve, hc, h2, Deferred.ofValue, Sem.run_bind, Sem.run_pure, Result.andThen_ok, invoke]
            · cases hcal
    | _ => simp [calls, hc] at h
  | _ => rw [ho] at h; simp [calls] at h
theorem EnvR.put (he : EnvR c e a) {d : Option Nat} {x : A} {y : Value} {n : Nat} (hn : a.tmps.size = n) (hd : ∀ t, d = some t → t < n) (hr : R c.ρ c.own c.w x y) : EnvR c (Ev.put e d x) (a.put d y) := by
  cases d with
  | none => exact he
  | some d =>
    intro t z hz
    have hlt : d < a.tmps.size := by rw [hn]; exact hd d rfl
    rw [Rel.getD_put hlt]
    simp only [Ev.put, look] at hz
    by_cases htd : t = d
    · subst htd
      rw [show Nat.beq t t = true from Nat.beq_refl t] at hz
      simp only [cond_true, Option.some.injEq] at hz
      rw [if_pos rfl, ← hz]
      exact hr
    · have hb : Nat.beq d t = false := by
        cases hb : Nat.beq d t with
        | false => rfl
        | true => exact absurd (Nat.eq_of_beq_eq_true hb).symm htd
      rw [hb] at hz
      rw [if_neg htd]
      exact he t z hz
theorem EnvR.to {c' : Cfg} (h : To c c') (ok : Ok T.gl c) (he : EnvR c e a) : EnvR c' e a := fun t x hx => (he t x hx).to h ok
theorem EnvR.keep (he : EnvR c e a) (l : List Nat) : EnvR c (keepE e l) a := fun t x hx => by
  rw [look_keepE] at hx
  split at hx
  · exact he t x hx
  · cases hx
end

/-- One operation in short. -/
def cmpOp (n : Nat) (ops : List Oper) (o : Oper) : Option MOp :=
  match o.op with
  | .defer _ => none
  | _ =>
    if o.dst.all (fun d => Nat.blt d n) then
      match o.guard with
      | none => some ⟨o.dst, o.op, none⟩
      | some (g, b) => match (ops[g]?).bind (·.dst) with
        | some t => some ⟨o.dst, o.op, some (t, b)⟩
        | none => none
    else none
def cmpOps (n : Nat) (ops : List Oper) : List Oper → Option (List MOp)
  | [] => some []
  | o :: l => match cmpOp n ops o, cmpOps n ops l with
    | some m, some ms => some (m :: ms)
    | _, _ => none
structure CmpOk (n : Nat) (ops : List Oper) (o : Oper) (m : MOp) : Prop where
  dst : m.dst = o.dst
  op : m.op = o.op
  lt : ∀ t, o.dst = some t → t < n
  defer : ∀ c, o.op ≠ .defer c
  guard : (o.guard = none ∧ m.guard = none) ∨ ∃ g b t, o.guard = some (g, b) ∧ (ops[g]?).bind (·.dst) = some t ∧ m.guard = some (t, b)
theorem cmpOp_ok {n : Nat} {ops : List Oper} {o : Oper} {m : MOp} (h : cmpOp n ops o = some m) : CmpOk n ops o m := by
  have hd : ∀ c, o.op ≠ .defer c := by
    intro c hc
    simp [cmpOp, hc] at h
  have h' : (if o.dst.all (fun d => Nat.blt d n) then
      match o.guard with
      | none => some ⟨o.dst, o.op, none⟩
      | some (g, b) => match (ops[g]?).bind (·.dst) with
        | some t => some ⟨o.dst, o.op, some (t, b)⟩
        | none => none
    else none : Option MOp) = some m := by
    rw [← h]
    unfold cmpOp
    cases ho : o.op <;> first
      | rfl
      | exact absurd ho (hd _)
  split at h'
  · rename_i hall
    have hlt : ∀ t, o.dst = some t → t < n := by
      intro t ht
      rw [ht] at hall
      have hh : t + 1 ≤ n := by simpa [Nat.blt] using hall
      exact hh
    cases hg : o.guard with
    | none =>
      simp only [hg, Option.some.injEq] at h'
      subst h'
      exact ⟨rfl, rfl, hlt, hd, .inl ⟨hg, rfl⟩⟩
    | some gb =>
      obtain ⟨g, b⟩ := gb
      simp only [hg] at h'
      cases hx : (ops[g]?).bind (·.dst) with
      | none => simp [hx] at h'
      | some t =>
        simp only [hx, Option.some.injEq] at h'
        subst h'
        exact ⟨rfl, rfl, hlt, hd, .inr ⟨g, b, t, hg, hx, rfl⟩⟩
  · cases h'
theorem cmpOps_get {n : Nat} {ops : List Oper} : ∀ {l : List Oper} {ms : List MOp}, cmpOps n ops l = some ms → ms.length = l.length ∧ ∀ (i : Nat) o, l[i]? = some o → ∃ m, ms[i]? = some m ∧ CmpOk n ops o m
  | [], ms, h => by
    simp [cmpOps] at h
    subst h
    exact ⟨rfl, fun i o h => by simp at h⟩
  | o :: l, ms, h => by
    unfold cmpOps at h
    cases h1 : cmpOp n ops o with
    | none => simp [h1] at h
    | some m =>
      cases h2 : cmpOps n ops l with
      | none => simp [h1, h2] at h
      | some ms' =>
        simp only [h1, h2, Option.some.injEq] at h
        subst h
        obtain ⟨h3, h4⟩ := cmpOps_get h2
        refine ⟨by simp [h3], fun i o' hi => ?_⟩
        cases i with
        | zero =>
          simp at hi
          subst hi
          exact ⟨m, rfl, cmpOp_ok h1⟩
        | succ i => simpa using h4 i o' (by simpa using hi)
theorem cmpOps_drop {n : Nat} {ops : List Oper} : ∀ (k : Nat) {l : List Oper} {ms : List MOp}, cmpOps n ops l = some ms → cmpOps n ops (l.drop k) = some (ms.drop k)
  | 0, l, ms, h => by simpa using h
  | k + 1, [], ms, h => by simp [cmpOps] at h; subst h; simp [cmpOps]
  | k + 1, o :: l, ms, h => by
    unfold cmpOps at h
    cases h1 : cmpOp n ops o with
    | none => simp [h1] at h
    | some m =>
      cases h2 : cmpOps n ops l with
      | none => simp [h1, h2] at h
      | some ms' =>
        simp only [h1, h2, Option.some.injEq] at h
        subst h
        simpa using cmpOps_drop k h2

theorem wants_ok {c : Cfg} {e : Env} {a : Act} {n : Nat} {ops : List Oper} {o : Oper} {m : MOp} (hc : CmpOk n ops o m) (he : ∀ t z, (∃ g b, o.guard = some (g, b) ∧ (ops[g]?).bind (·.dst) = some t) → look e t = some z → R c.ρ c.own c.w z (a.tmps.getD t undef)) {b : Bool} (h : wants e m.guard = some b) :
    Region.wanted o (yielded ops.toArray a.tmps) = b := by
  rcases hc.guard with ⟨h1, h2⟩ | ⟨g, b', t, h1, h2, h3⟩
  · rw [h2] at h
    simp [wants] at h
    subst h
    simp [Region.wanted, h1]
  · rw [h3] at h
    simp only [wants] at h
    cases hl : look e t with
    | none => simp [hl] at h
    | some z =>
      have hr := he t z ⟨g, b', h1, h2⟩ hl
      rw [hl] at h
      split at h
      · rename_i x heq
        obtain rfl := Option.some.inj heq
        obtain rfl := Option.some.inj h
        rw [R] at hr
        have hget : a.tmps[t]? = some (.bool x) := by
          rw [Array.getD_eq_getD_getElem?] at hr
          cases hh : a.tmps[t]? with
          | none => rw [hh] at hr; simp [undef] at hr
          | some y => rw [hh] at hr; simp at hr; rw [hr]
        have h2' : (ops.toArray[g]?).bind (·.dst) = some t := by simpa using h2
        simp only [Region.wanted, h1, yielded, h2', Option.bind_some, hget]
        cases x <;> cases b' <;> rfl
      · rename_i xs heq
        obtain rfl := Option.some.inj heq
        obtain rfl := Option.some.inj h
        rw [R] at hr
        have h2' : (ops.toArray[g]?).bind (·.dst) = some t := by simpa using h2
        simp only [Region.wanted, h1, yielded, h2', Option.bind_some]
        rw [Array.getD_eq_getD_getElem?] at hr
        cases hh : a.tmps[t]? with
        | none => rfl
        | some y =>
          rw [hh] at hr
          simp at hr
          rw [hr]
          rfl
      · cases h

section
variable {q : OrcQ} {ov : Orc} {r : Option Nat} {n nt : Nat} {ops : List Oper}

/-- An operation of the forced part. -/
theorem any_ok (hT : TOk P T) (hO : OOk T P ov) {c : Cfg} (ok : Ok T.gl c) {st : St} (hH : c.H = st.H) {a : Act} (he : EnvR c st.env a) {o : Oper} {x : A} {H' : Heap} (hd : ∀ c, o.op ≠ .defer c) (h : anyOp T ov st o.op = some (x, H')) {K : Act → World → Prop} {Q : Exit → Act → World → Prop}
    (hK : ∀ y c', c'.H = H' → To c c' → Ok T.gl c' → R c'.ρ c'.own c'.w x y → K (a.put o.dst y) c'.w) : o.wpIn (Wd r) n P a c.w K Q := by
  refine ⟨fun f _ => Wd.fn r f, ?_⟩
  rw [Oper.semAt_eq _ _ _ hd]
  unfold anyOp at h
  cases hcs : calls st.env o.op with
  | some fa =>
    obtain ⟨f | b, as⟩ := fa
    rotate_left
    · simp only [hcs] at h
      obtain ⟨l, ys, h1, h2, h3⟩ := yields_ok (P := P) he hcs
      obtain ⟨rec, h4, h5, h6⟩ := hO.yl b as st.H x H' h c ys l hH ok h2 h1
      rw [h3 c.w, run_yield h4 (by simpa using h5)]
      refine ⟨(fun h => by cases h), (h6 r (n - 1)).mono ?_⟩
      rintro e w' ⟨v, c', rfl, rfl, k1, k2, k3, k4⟩
      exact hK v c' k1 k2 k3 k4
    simp only [hcs] at h
    obtain ⟨ys, h1, h2⟩ := calls_ok (P := P) he hcs
    rw [h2 c.w]
    rcases hO.fn f as st.H x H' h with ⟨as', hl, rfl, hsf, hat⟩ | ⟨hen, hcall⟩
    · rw [← hH] at hl
      rw [Bool.or_eq_true] at hsf
      rcases hsf with hs | hfl
      · obtain ⟨v, k1, k2⟩ := hat [] c.own c.w ys (lend_shut as as' ys hl hs h1)
        rw [k1]
        exact hK v c hH (To.refl c) ok k2.open_
      · obtain ⟨v, k1, k2⟩ := hat [] (fun g => c.own g ∧ ¬ img c.ρ c.H g) c.w ys (lend_ok ok (fun g hg => hg) as as' ys hl h1)
        rw [k1]
        exact hK v c hH (To.refl c) ok (flat_ok x v hfl k2)
    rw [hen]
    refine ⟨(fun h => by cases h), callsIn_Wd ((hcall c ys hH ok h1).mono ?_)⟩
    rintro e w' ⟨v, c', rfl, rfl, k1, k2, k3, k4⟩
    exact hK v c' k1 k2 k3 k4
  | none =>
    simp only [hcs] at h
    have hmk : Makes T P c a o x H' := by
      cases hl : loudOp T st.env st.H o.op with
      | some rr =>
        simp only [hl, Option.some.injEq] at h
        subst h
        rw [← hH] at hl
        exact loud_ok hT ok he hl
      | none =>
        simp only [hl] at h
        cases hq : quietOp T st.env st.H o.op with
        | none => simp [hq] at h
        | some z =>
          simp only [hq, Option.map_some, Option.some.injEq, Prod.mk.injEq] at h
          obtain ⟨rfl, rfl⟩ := h
          rw [← hH] at hq ⊢
          exact (quiet_ok hT ok he hq).makes ok
    obtain ⟨rr, y, c', h1, h2, h3, h4, h5, h6⟩ := hmk
    rw [h1]
    rcases h2 with rfl | ⟨rfl, rfl⟩
    · exact hK y c' h3 h4 h5 h6
    · exact hK undef c' h3 h4 h5 h6

theorem tail_ok (hT : TOk P T) (hO : OOk T P ov) {Q : Exit → Act → World → Prop} : ∀ (os : List Oper) (ms : List MOp) (st st' : St) (a : Act) (c : Cfg), cmpOps nt ops os = some ms → runOps T q ov 0 ms st = some st' → c.H = st.H → Ok T.gl c → EnvR c st.env a → a.tmps.size = nt →
    (∀ a' c', c'.H = st'.H → To c c' → Ok T.gl c' → EnvR c' st'.env a' → a'.tmps.size = nt → a'.defers = a.defers → Q .normal a' c'.w) → wpListIn (Wd r) n P ops.toArray Q os a c.w
  | [], ms, st, st', a, c, hc, h, hH, ok, he, hs, hQ => by
    simp [cmpOps] at hc
    subst hc
    simp [runOps] at h
    subst h
    exact hQ a c hH (To.refl c) ok he hs rfl
  | o :: os, ms, st, st', a, c, hc, h, hH, ok, he, hs, hQ => by
    unfold cmpOps at hc
    cases h1 : cmpOp nt ops o with
    | none => simp [h1] at hc
    | some m =>
      cases h2 : cmpOps nt ops os with
      | none => simp [h1, h2] at hc
      | some ms' =>
        simp only [h1, h2, Option.some.injEq] at hc
        subst hc
        have hm := cmpOp_ok h1
        unfold runOps at h
        cases hw : wants st.env m.guard with
        | none => simp [hw] at h
        | some b =>
          have hwant := wants_ok (c := c) (a := a) hm (fun t z _ hz => he t z hz) hw
          cases b with
          | false =>
            simp only [hw] at h
            unfold wpListIn
            rw [hwant]
            simp only [Bool.false_eq_true, if_false]
            refine ⟨fun f _ => Wd.fn r f, ?_⟩
            rw [hm.dst] at h
            exact tail_ok hT hO os ms' _ st' _ c h2 h hH ok (he.put hs hm.lt (by rw [R])) (by rw [Rel.size_put, hs]) fun a' c' k1 k2 k3 k4 k5 k6 => hQ a' c' k1 k2 k3 k4 k5 (by rw [k6, Rel.defers_put])
          | true =>
            simp only [hw] at h
            cases hop : anyOp T ov st m.op with
            | none => simp [hop] at h
            | some xH =>
              obtain ⟨x, H'⟩ := xH
              simp only [hop] at h
              unfold wpListIn
              rw [hwant]
              simp only [if_true]
              rw [hm.op] at hop
              rw [hm.dst] at h
              refine any_ok hT hO ok hH he hm.defer hop fun y c' k1 k2 k3 k4 => ?_
              exact tail_ok hT hO os ms' _ st' _ c' h2 h k1 k3 ((he.to k2 ok).put hs hm.lt k4) (by rw [Rel.size_put, hs]) fun a' c'' j1 j2 j3 j4 j5 j6 => hQ a' c'' j1 (k2.trans j2) j3 j4 j5 (by rw [j6, Rel.defers_put])
end
end Go.Proofs.YtijpomemobgddaaGreatDoor.Ev
