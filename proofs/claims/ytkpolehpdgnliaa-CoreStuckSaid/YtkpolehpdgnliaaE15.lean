/- What an operation looks at; growth; values without a way into live blocks. -/
import Derived.Test.YtkpolehpdgnliaaE14
set_option linter.unusedSimpArgs false
set_option linter.unusedVariables false
namespace Go.Proofs.Ytkpolehpdgnliaa.Ev
open Go Go.RowKit
variable {P : Program} {T : Tb}

/-- The slots that an operation looks at. -/
def slotsOf (op : Op) : List Nat := op.operands.toList.filterMap fun | .tmp t => some t | _ => none
def Agree (l : List Operand) (e e' : Env) : Prop := ∀ x ∈ l, opnd e x = opnd e' x
theorem Agree.opnds {e e' : Env} : ∀ {l : List Operand}, Agree l e e' → opnds e l = opnds e' l
  | [], _ => rfl
  | x :: l, h => by
    unfold Ev.opnds
    rw [h x (.head _), Agree.opnds (l := l) (fun y hy => h y (.tail _ hy))]
theorem Agree.parts {e e' : Env} : ∀ {l : List (Nat × Operand)}, Agree (l.map (·.2)) e e' → partsA e l = partsA e' l
  | [], _ => rfl
  | (i, x) :: l, h => by
    unfold partsA
    rw [h x (by simp), Agree.parts (l := l) (fun y hy => h y (by simp only [List.map_cons]; exact .tail _ hy))]
theorem Agree.opt {e e' : Env} {o : Option Operand} (h : Agree o.toList e e') : opndO e o = opndO e' o := by
  cases o with
  | none => rfl
  | some x =>
    simp only [opndO]
    rw [h x (by simp)]

theorem quiet_congr {e e' : Env} {H : Heap} {op : Op} (h : Agree op.operands.toList e e') : quietOp T e H op = quietOp T e' H op := by
  cases op with
  | move x => exact h x (by simp [Op.operands])
  | assign x => exact h x (by simp [Op.operands])
  | pick c a b => simp only [quietOp]; rw [h c (by simp [Op.operands]), h a (by simp [Op.operands]), h b (by simp [Op.operands])]
  | build t ps =>
    simp only [quietOp]
    rw [Agree.parts (l := ps.toList) (by simpa [Op.operands] using h)]
  | load t x => simp only [quietOp]; rw [h x (by simp [Op.operands])]
  | nilCheck x => simp only [quietOp]; rw [h x (by simp [Op.operands])]
  | binOp b t x y t' => simp only [quietOp]; rw [h x (by simp [Op.operands]), h y (by simp [Op.operands])]
  | unOp b t x => simp only [quietOp]; rw [h x (by simp [Op.operands])]
  | convert t t' x => simp only [quietOp]; rw [h x (by simp [Op.operands])]
  | fieldAddr t x i => simp only [quietOp]; rw [h x (by simp [Op.operands])]
  | field t x i => simp only [quietOp]; rw [h x (by simp [Op.operands])]
  | indexAddr t x y => simp only [quietOp]; rw [h x (by simp [Op.operands]), h y (by simp [Op.operands])]
  | index t x y => simp only [quietOp]; rw [h x (by simp [Op.operands]), h y (by simp [Op.operands])]
  | slice t x lo hi mx =>
    simp only [quietOp]
    have h1 : opndO e lo = opndO e' lo := Agree.opt fun y hy => h y (by simp [Op.operands]; simp at hy; simp [hy])
    have h2 : opndO e hi = opndO e' hi := Agree.opt fun y hy => h y (by simp [Op.operands]; simp at hy; simp [hy])
    rw [h x (by simp [Op.operands]), h1, h2]
  | extract x i => simp only [quietOp]; rw [h x (by simp [Op.operands])]
  | lookup t x y b => simp only [quietOp]; rw [h x (by simp [Op.operands]), h y (by simp [Op.operands])]
  | makeFunc f a b =>
    simp only [quietOp]
    rw [Agree.opnds (l := a.toList) (fun y hy => h y (by simp [Op.operands]; simp at hy; simp [hy])), Agree.opnds (l := b.toList) (fun y hy => h y (by simp [Op.operands]; simp at hy; simp [hy]))]
  | call cl =>
    simp only [quietOp]
    rw [Agree.opnds (l := cl.args.toList) (fun y hy => h y (by simp [Op.operands, Call.operands]; simp at hy; simp [hy]))]
  | _ => rfl
theorem calls_congr {e e' : Env} {op : Op} (h : Agree op.operands.toList e e') : calls e op = calls e' op := by
  cases op with
  | call cl =>
    cases hc : cl.callee with
    | value f =>
      simp only [calls, hc]
      rw [Agree.opnds (l := cl.args.toList) (fun y hy => h y (by simp [Op.operands, Call.operands]; simp at hy; simp [hy])), h f (by simp [Op.operands, Call.operands, hc])]
    | _ => simp [calls, hc]
  | _ => rfl
theorem lit_congr {e e' : Env} {t : TypeId} {n : Nat} {ps : Array (Nat × Operand)} (h : Agree (Op.buildSlice t n ps).operands.toList e e') : litCells T e t n ps = litCells T e' t n ps := by
  unfold litCells
  rw [Agree.parts (l := ps.toList) (by simpa [Op.operands] using h)]

theorem look_keepE (e : Env) : ∀ (l : List Nat) (t : Nat), look (keepE e l) t = if t ∈ l then look e t else none
  | [], t => by simp [keepE, look]
  | s :: l, t => by
    have ih := look_keepE e l t
    unfold keepE
    cases hs : look e s with
    | none =>
      simp only
      rw [ih]
      by_cases hts : t = s
      · subst hts
        simp [hs]
      · simp [hts]
    | some x =>
      simp only [look]
      by_cases hts : t = s
      · subst hts
        simp [hs]
      · have : Nat.beq s t = false := by
          cases hb : Nat.beq s t with
          | false => rfl
          | true => exact absurd (Nat.eq_of_beq_eq_true hb).symm hts
        simp [this, ih, hts]
theorem agree_keep (e : Env) (op : Op) : Agree op.operands.toList e (keepE e (slotsOf op)) := by
  intro x hx
  cases x with
  | tmp t =>
    simp only [opnd]
    rw [look_keepE, if_pos]
    unfold slotsOf
    exact List.mem_filterMap.2 ⟨_, hx, rfl⟩
  | _ => rfl

/-- Nothing that was there has changed. -/
abbrev Grow (w w' : World) : Prop := Below w.heap.size w w'
theorem grow_keeps {ρ : List Nat} {own : Nat → Prop} {w w' : World} (h : Grow w w') : Keeps ρ own w ρ own w' :=
  ⟨List.prefix_rfl, Below.size h, fun g hg ho => ⟨ho, h.block g hg⟩, fun g cur e hc => ⟨cur, (h.block g (Array.getElem?_eq_some_iff.1 hc).1).trans hc, rfl⟩, fun g es n hc => ⟨es, n, (h.block g (Array.getElem?_eq_some_iff.1 hc).1).trans hc⟩⟩
theorem Ok.grow {c : Cfg} (ok : Ok T.gl c) {w' : World} (h : Grow c.w w') : To c ⟨c.ρ, c.own, c.H, w'⟩ ∧ Ok T.gl ⟨c.ρ, c.own, c.H, w'⟩ := by
  have hto : To c ⟨c.ρ, c.own, c.H, w'⟩ :=
    ⟨List.prefix_rfl, Below.size h, h.os, h.tape, h.output, fun _ _ h => h, fun g hg _ => h.block g hg, fun g cur e hc => ⟨cur, (h.block g (Array.getElem?_eq_some_iff.1 hc).1).trans hc, rfl⟩, fun g es n hc => ⟨es, n, (h.block g (Array.getElem?_eq_some_iff.1 hc).1).trans hc⟩, fun _ _ => Iff.rfl⟩
  refine ⟨hto, ⟨ok.len, fun g hg => Nat.lt_of_lt_of_le (ok.lt g hg) (Below.size h), ok.img, fun b e cs wh g hb hg => ?_, ok.inj, hto.glob ok⟩⟩
  exact (ok.blk b e cs wh g hb hg).keep (hto.keeps ok) (h.block g (ok.lt_blk hb hg))
/-- Where nothing is live, a step is growth. -/
theorem To.grows {c c' : Cfg} (h : To c c') (hn : ∀ g, ¬ Ev.img c.ρ c.H g) : Grow c.w c'.w := { size := h.size, block := fun k hk => h.same k hk (hn k), os := h.os, tape := h.tape, output := h.output }

mutual
theorem shut_ok {ρ : List Nat} {own : Nat → Prop} {w : World} : ∀ (a : A) (y : Value), shut a = true → R ρ own w a y → R [] own w a y
  | .v x, y, _, h => by rw [R] at *; exact h
  | .agg cs, y, hs, h => by
    rw [R] at *
    obtain ⟨xs, h1, h2⟩ := h
    exact ⟨xs, h1, shutL_ok cs xs (by simpa [shut] using hs) h2⟩
  | .tup cs, y, hs, h => by
    rw [R] at *
    obtain ⟨xs, h1, h2⟩ := h
    exact ⟨xs, h1, shutL_ok cs xs (by simpa [shut] using hs) h2⟩
  | .ptr b off, y, hs, _ => by simp [shut] at hs
  | .mp b, y, hs, _ => by simp [shut] at hs
  | .mf cs, y, _, h => by rw [R] at *; exact h
  | .ref b off len sz, y, hs, _ => by simp [shut] at hs
  | .sl len cs, y, _, h => by rw [R] at *; exact h
  | .fp cs, y, _, h => by rw [R] at *; exact h
  | .clo f fs caps, y, hs, h => by
    rw [R] at *
    obtain ⟨xs, ys, h1, h2, h3⟩ := h
    simp only [shut, Bool.and_eq_true] at hs
    exact ⟨xs, ys, h1, shutL_ok fs xs hs.1 h2, shutL_ok caps ys hs.2 h3⟩
theorem shutL_ok {ρ : List Nat} {own : Nat → Prop} {w : World} : ∀ (cs : List A) (ys : List Value), shut.shutL cs = true → RL ρ own w cs ys → RL [] own w cs ys
  | [], ys, _, h => by rw [RL] at *; exact h
  | c :: cs, ys, hs, h => by
    simp only [shut.shutL, Bool.and_eq_true] at hs
    rw [RL] at *
    obtain ⟨x, xs, h1, h2, h3⟩ := h
    exact ⟨x, xs, h1, shut_ok c x hs.1 h2, shutL_ok cs xs hs.2 h3⟩
end
mutual
theorem flat_ok {ρ ρ' : List Nat} {own own' : Nat → Prop} {w w' : World} : ∀ (a : A) (y : Value), flat a = true → R ρ own w a y → R ρ' own' w' a y
  | .v x, y, _, h => by rw [R] at *; exact h
  | .agg cs, y, hs, h => by
    rw [R] at *
    obtain ⟨xs, h1, h2⟩ := h
    exact ⟨xs, h1, flatL_ok cs xs (by simpa [flat] using hs) h2⟩
  | .tup cs, y, hs, h => by
    rw [R] at *
    obtain ⟨xs, h1, h2⟩ := h
    exact ⟨xs, h1, flatL_ok cs xs (by simpa [flat] using hs) h2⟩
  | .ptr b off, y, hs, _ => by simp [flat] at hs
  | .mp b, y, hs, _ => by simp [flat] at hs
  | .mf cs, y, hs, _ => by simp [flat] at hs
  | .ref b off len sz, y, hs, _ => by simp [flat] at hs
  | .sl len cs, y, hs, h => by
    simp only [flat, Bool.and_eq_true, Nat.beq_eq, List.isEmpty_iff] at hs
    obtain ⟨rfl, rfl⟩ := hs
    rw [R] at *
    left
    rcases h with h | ⟨g, off, cap, xs, h1, -⟩
    · exact h
    · exact ⟨rfl, rfl, _, _, h1⟩
  | .fp cs, y, hs, _ => by simp [flat] at hs
  | .clo f fs caps, y, hs, h => by
    rw [R] at *
    obtain ⟨xs, ys, h1, h2, h3⟩ := h
    simp only [flat, Bool.and_eq_true] at hs
    exact ⟨xs, ys, h1, flatL_ok fs xs hs.1 h2, flatL_ok caps ys hs.2 h3⟩
theorem flatL_ok {ρ ρ' : List Nat} {own own' : Nat → Prop} {w w' : World} : ∀ (cs : List A) (ys : List Value), flat.flatL cs = true → RL ρ own w cs ys → RL ρ' own' w' cs ys
  | [], ys, _, h => by rw [RL] at *; exact h
  | c :: cs, ys, hs, h => by
    simp only [flat.flatL, Bool.and_eq_true] at hs
    rw [RL] at *
    obtain ⟨x, xs, h1, h2, h3⟩ := h
    exact ⟨x, xs, h1, flat_ok c x hs.1 h2, flatL_ok cs xs hs.2 h3⟩
end
end Go.Proofs.Ytkpolehpdgnliaa.Ev
