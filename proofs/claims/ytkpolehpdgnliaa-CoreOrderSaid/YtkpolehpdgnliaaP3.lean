/- Core, in plain: a core that is connected to a memory, step by step. -/
import Derived.Test.YtkpolehpdgnliaaP1
set_option linter.unusedSimpArgs false
set_option linter.unusedVariables false
namespace Go.Proofs.Ytkpolehpdgnliaa.Pl
def at4 (l : Int) : Nat := (l % 4).toNat
/-- What an operation leaves in its location. -/
def after (o : Op) (old : Int) : Int :=
  if o.kind = 2 ∨ o.kind = 4 then o.a
  else if o.kind = 5 then Go.IntKind.u8.wrap (old + o.a)
  else if o.kind = 6 then (if old = o.a then o.b else old)
  else old
def putm (m : Nat → Int) (l v : Int) : Nat → Int := fun i => if i = at4 l then v else m i
structure Step where
  c : Core
  m : Nat → Int
  did : Bool
def perform (l : List Ins) (c : Core) (m : Nat → Int) (o : Op) : Step := ⟨back l c (m (at4 o.loc)), putm m o.loc (after o (m (at4 o.loc))), true⟩
def go (l : List Ins) (b : Int) (c : Core) (m : Nat → Int) : Step :=
  if next l b c = 2 then ⟨loc l b c, m, true⟩
  else if next l b c = 3 then perform l { c with waits := true } m (ask l c)
  else ⟨c, m, false⟩
def alone (l : List Ins) (b : Int) (c : Core) (m : Nat → Int) (dr : Bool) : Step :=
  match drains c with
  | some p => if dr || next l b c == 4 then perform l { c with drain := true } m ⟨2, p.1, p.2, 0⟩ else go l b c m
  | none => go l b c m
end Go.Proofs.Ytkpolehpdgnliaa.Pl
namespace Go.Proofs.Ytkpolehpdgnliaa.Pl
/-- What an instruction does to a memory, at once. -/
def smem (x : Ins) (g m : Nat → Int) : Nat → Int :=
  if x.op = 2 ∨ x.op = 4 then putm m x.loc (value g x.ra x.na)
  else if x.op = 5 then putm m x.loc (Go.IntKind.u8.wrap (m (at4 x.loc) + value g x.ra x.na))
  else if x.op = 6 then (if m (at4 x.loc) = value g x.ra x.na then putm m x.loc (value g x.rb x.nb) else m)
  else m
def sreg (x : Ins) (g m : Nat → Int) : Nat → Int :=
  if x.op = 3 then set g x.dst (mov x.fn (value g x.ra x.na) (value g x.rb x.nb))
  else if x.op = 1 ∨ x.op = 4 ∨ x.op = 5 ∨ x.op = 6 then set g x.dst (m (at4 x.loc))
  else g
def spc (x : Ins) (g : Nat → Int) (pc : Int) : Int := if x.op = 8 ∧ tst x.fn (value g x.ra x.na) (value g x.rb x.nb) = true then pc + x.skip + 1 else pc + 1
def seqRun (l : List Ins) : Nat → Int → (Nat → Int) → (Nat → Int) → (Nat → Int) × (Nat → Int)
  | 0, _, g, m => (g, m)
  | n + 1, pc, g, m => match l[pc.toNat]? with
    | none => (g, m)
    | some x => seqRun l n (spc x g pc) (sreg x g m) (smem x g m)
def fin (l : List Ins) (pc : Int) (g m : Nat → Int) : (Nat → Int) × (Nat → Int) := seqRun l (l.length - pc.toNat) pc g m
theorem seqRun_more (l : List Ins) (hs : ∀ x ∈ l, 0 ≤ x.skip) : ∀ (n k : Nat) (pc : Int) (g m : Nat → Int), 0 ≤ pc → l.length - pc.toNat ≤ n → l.length - pc.toNat ≤ k → seqRun l n pc g m = seqRun l k pc g m
  | 0, 0, _, _, _, _, _, _ => rfl
  | 0, k + 1, pc, g, m, h0, h1, _ => by
    have : l[pc.toNat]? = none := List.getElem?_eq_none (by omega)
    simp [seqRun, this]
  | n + 1, 0, pc, g, m, h0, _, h1 => by
    have : l[pc.toNat]? = none := List.getElem?_eq_none (by omega)
    simp [seqRun, this]
  | n + 1, k + 1, pc, g, m, h0, h1, h2 => by
    cases hx : l[pc.toNat]? with
    | none => simp [seqRun, hx]
    | some x =>
      simp only [seqRun, hx]
      have hk := hs x (List.mem_of_getElem? hx)
      have hp : pc < spc x g pc := by
        unfold spc
        split <;> omega
      exact seqRun_more l hs n k _ _ _ (by omega) (by omega) (by omega)
theorem fin_step {l : List Ins} (hs : ∀ x ∈ l, 0 ≤ x.skip) {pc : Int} {g m : Nat → Int} (h0 : 0 ≤ pc) {x : Ins} (hx : l[pc.toNat]? = some x) : fin l pc g m = fin l (spc x g pc) (sreg x g m) (smem x g m) := by
  have hlt := (List.getElem?_eq_some_iff.1 hx).1
  unfold fin
  obtain ⟨n, hn⟩ : ∃ n, l.length - pc.toNat = n + 1 := ⟨l.length - pc.toNat - 1, by omega⟩
  rw [hn]
  simp only [seqRun, hx]
  have hk := hs x (List.mem_of_getElem? hx)
  have hp : pc < spc x g pc := by
    unfold spc
    split <;> omega
  exact seqRun_more l hs _ _ _ _ _ (by omega) (by omega) (by omega)
theorem fin_end {l : List Ins} {pc : Int} {g m : Nat → Int} (h : (l.length : Int) ≤ pc) : fin l pc g m = (g, m) := by
  unfold fin
  rw [show l.length - pc.toNat = 0 by omega]
  rfl
theorem fin_min {l : List Ins} {pc : Int} {g m : Nat → Int} : fin l (min pc l.length) g m = fin l pc g m := by
  by_cases h : pc ≤ l.length
  · rw [Int.min_eq_left h]
  · rw [Int.min_eq_right (by omega), fin_end (Int.le_refl _), fin_end (by omega)]

/-- A memory as the core sees it: what is buffered lies over it. -/
def over : List (Int × Int) → (Nat → Int) → (Nat → Int)
  | [], m => m
  | p :: t, m => over t (putm m p.1 p.2)
theorem over_snoc : ∀ (t : List (Int × Int)) (p : Int × Int) (m : Nat → Int), over (t ++ [p]) m = putm (over t m) p.1 p.2
  | [], _, _ => rfl
  | q :: t, p, m => by simp only [List.cons_append, over, over_snoc t p]
theorem putm_same (m : Nat → Int) (l : Int) : putm m l (m (at4 l)) = m := by
  funext i
  unfold putm
  split
  · rename_i h
    rw [h]
  · rfl
theorem at4_inj {a b : Int} (ha : 0 ≤ a ∧ a < 4) (hb : 0 ≤ b ∧ b < 4) (h : at4 a = at4 b) : a = b := by
  unfold at4 at h
  omega
theorem over_young {loc : Int} (hl : 0 ≤ loc ∧ loc < 4) : ∀ (t : List (Int × Int)) (m : Nat → Int), (∀ p ∈ t, 0 ≤ p.1 ∧ p.1 < 4) → over t m (at4 loc) = match young loc t with | some v => v | none => m (at4 loc)
  | [], m, _ => rfl
  | p :: t, m, h => by
    have ih := over_young hl t (putm m p.1 p.2) fun q hq => h q (by simp [hq])
    simp only [over, young, ih]
    cases young loc t with
    | some v => rfl
    | none =>
      simp only
      by_cases hp : p.1 = loc
      · subst hp
        simp [putm]
      · have : ¬ at4 loc = at4 p.1 := fun he => hp (at4_inj hl (h p (by simp)) he).symm
        simp [putm, this, hp]

structure Tame (l : List Ins) : Prop where
  len : l.length ≤ 60
  ok : ∀ x ∈ l, x.Ok
  op : ∀ x ∈ l, 1 ≤ x.op ∧ x.op ≤ 8
  loc : ∀ x ∈ l, 0 ≤ x.loc ∧ x.loc < 4
structure Inv (l : List Ins) (b : Int) (c : Core) (m : Nat → Int) : Prop where
  pc0 : 0 ≤ c.pc
  pc1 : c.pc ≤ l.length
  g : ∀ i, 0 ≤ c.g i ∧ c.g i ≤ 255
  buf : ∀ p ∈ c.buf, (0 ≤ p.1 ∧ p.1 < 4) ∧ 0 ≤ p.2 ∧ p.2 ≤ 255
  len : (c.buf.length : Int) ≤ max b 0
  w : c.waits = false
  d : c.drain = false
  m : ∀ i, 0 ≤ m i ∧ m i ≤ 255
def meas (l : List Ins) (c : Core) : Nat := 2 * (l.length - c.pc.toNat) + c.buf.length
theorem mov_u8 (fn a b : Int) : 0 ≤ mov fn a b ∧ mov fn a b ≤ 255 := by
  have h : ∀ n, 0 ≤ Go.IntKind.u8.wrap n ∧ Go.IntKind.u8.wrap n ≤ 255 := fun n => by
    rw [Go.IntKind.wrap_u8]
    omega
  unfold mov
  split
  · exact h _
  · split
    · exact h _
    · split
      · exact h _
      · omega
theorem value_u8 {g : Nat → Int} (hg : ∀ i, 0 ≤ g i ∧ g i ≤ 255) (r : Bool) {n : Int} (n1 : 0 ≤ n) (n2 : n ≤ 255) : 0 ≤ value g r n ∧ value g r n ≤ 255 := by
  unfold value
  split
  · split
    · exact hg _
    · omega
  · omega
theorem set_u8 {g : Nat → Int} (hg : ∀ i, 0 ≤ g i ∧ g i ≤ 255) (d : Int) {v : Int} (hv : 0 ≤ v ∧ v ≤ 255) : ∀ i, 0 ≤ set g d v i ∧ set g d v i ≤ 255 := fun i => by
  unfold set
  split
  · exact hv
  · exact hg i
theorem putm_u8 {m : Nat → Int} (hm : ∀ i, 0 ≤ m i ∧ m i ≤ 255) (l : Int) {v : Int} (hv : 0 ≤ v ∧ v ≤ 255) : ∀ i, 0 ≤ putm m l v i ∧ putm m l v i ≤ 255 := fun i => by
  unfold putm
  split
  · exact hv
  · exact hm i
theorem after_u8 {o : Op} {old : Int} (ho : 0 ≤ old ∧ old ≤ 255) (ha : 0 ≤ o.a ∧ o.a ≤ 255) (hb : 0 ≤ o.b ∧ o.b ≤ 255) : 0 ≤ after o old ∧ after o old ≤ 255 := by
  unfold after
  split
  · exact ha
  · split
    · rw [Go.IntKind.wrap_u8]
      omega
    · split
      · split
        · exact hb
        · exact ho
      · exact ho
theorem on_fin {l : List Ins} {pc n : Int} {g m : Nat → Int} (hl : l.length ≤ 60) : fin l (on l pc n) g m = fin l (pc + n) g m := by
  have : on l pc n = min (pc + n) l.length := by
    unfold on
    omega
  rw [this, fin_min]
theorem on_le {l : List Ins} {pc n : Int} (h0 : 0 ≤ pc) (hn : 0 ≤ n) : 0 ≤ on l pc n ∧ on l pc n ≤ l.length := by
  unfold on
  omega
theorem on_gt {l : List Ins} {pc n : Int} (hl : l.length ≤ 60) (h : pc < l.length) (hn : 1 ≤ n) : pc < on l pc n := by
  unfold on
  omega
/-- One step of a core and a memory. -/
theorem alone_inv {l : List Ins} {b : Int} {c : Core} {m : Nat → Int} {dr : Bool} (ht : Tame l) (hi : Inv l b c m) :
    ((alone l b c m dr).did = true ∧ Inv l b (alone l b c m dr).c (alone l b c m dr).m ∧ fin l (alone l b c m dr).c.pc (alone l b c m dr).c.g (over (alone l b c m dr).c.buf (alone l b c m dr).m) = fin l c.pc c.g (over c.buf m) ∧ meas l (alone l b c m dr).c < meas l c) ∨
    ((alone l b c m dr).did = false ∧ next l b c = 1 ∧ (l.length : Int) ≤ c.pc ∧ c.buf = []) := by
  obtain ⟨pc, g, bs, w, d⟩ := c
  obtain ⟨p0, p1, hg, hbuf, hlen, hw, hd, hm⟩ := hi
  simp only at p0 p1 hg hbuf hlen hw hd
  subst hw
  subst hd
  have hs : ∀ x ∈ l, 0 ≤ x.skip := fun x hx => (ht.ok x hx).skip.1
  have hf := next_facts l b pc g bs false false p0
  by_cases hdr : ∃ p t, bs = p :: t ∧ (dr = true ∨ next l b ⟨pc, g, bs, false, false⟩ = 4)
  · obtain ⟨p, t, rfl, hc⟩ := hdr
    have hS : alone l b ⟨pc, g, p :: t, false, false⟩ m dr = ⟨⟨pc, g, t, false, false⟩, putm m p.1 p.2, true⟩ := by
      have : (dr || next l b ⟨pc, g, p :: t, false, false⟩ == 4) = true := by
        rcases hc with h | h <;> simp [h]
      simp only [alone, drains, Bool.or_self, Bool.false_eq_true, if_false, List.head?_cons, this, if_true]
      rfl
    rw [hS]
    have hp := hbuf p (by simp)
    refine .inl ⟨rfl, ⟨p0, p1, hg, fun q hq => hbuf q (by simp [hq]), ?_, rfl, rfl, putm_u8 hm _ hp.2⟩, rfl, ?_⟩
    · simp only [List.length_cons] at hlen
      show (t.length : Int) ≤ max b 0
      omega
    · simp [meas]
  have hS : alone l b ⟨pc, g, bs, false, false⟩ m dr = go l b ⟨pc, g, bs, false, false⟩ m := by
    cases bs with
    | nil => rfl
    | cons p t =>
      have : (dr || next l b ⟨pc, g, p :: t, false, false⟩ == 4) = false := by
        rw [Bool.eq_false_iff]
        intro h
        rw [Bool.or_eq_true] at h
        exact hdr ⟨p, t, rfl, h.imp_right fun h => by simpa using h⟩
      simp only [alone, drains, Bool.or_self, Bool.false_eq_true, if_false, List.head?_cons, this]
  rw [hS]
  clear hS
  obtain ⟨hn, hpc, -, hb0⟩ | ⟨hn, -, x, hx, hop⟩ | ⟨hn, -, -, x, hx, hop⟩ | ⟨hn, hst⟩ := hf
  · right
    have : go l b ⟨pc, g, bs, false, false⟩ m = ⟨⟨pc, g, bs, false, false⟩, m, false⟩ := by simp only [go, hn, Int.reduceEq, if_false]
    rw [this]
    exact ⟨rfl, hn, hpc, hb0⟩
  · left
    have hxm := List.mem_of_getElem? hx
    have hlt := (List.getElem?_eq_some_iff.1 hx).1
    obtain ⟨-, ux2, -, ux4, ux5, -, -, ux8⟩ := ht.ok x hxm
    have hxl := ht.loc x hxm
    have hgo : go l b ⟨pc, g, bs, false, false⟩ m = ⟨loc1 x l ⟨pc, g, bs, false, false⟩, m, true⟩ := by simp only [go, hn, if_true, loc, hx]
    rw [hgo, fin_step hs p0 hx]
    have va := value_u8 hg x.ra ux4.1 ux4.2
    have on1 := on_le (l := l) (pc := pc) (n := 1) p0 (by omega)
    have on2 := on_gt (pc := pc) (n := 1) ht.len (by omega) (by omega)
    have mlt : ∀ (pc' : Int) (n : Nat), pc < pc' → pc' ≤ l.length → n ≤ 1 → 2 * (l.length - pc'.toNat) + (bs.length + n) < 2 * (l.length - pc.toNat) + bs.length := fun pc' n h1 h2 h3 => by omega
    refine ⟨rfl, ?_⟩
    obtain ⟨h1, v, hv⟩ | ⟨h2, hbb⟩ | h3 | ⟨h7, -⟩ | h8 := hop
    · have hov := over_young hxl bs m fun p hp => (hbuf p hp).1
      rw [hv] at hov
      have hv8 : 0 ≤ v ∧ v ≤ 255 := by
        have key : ∀ (t : List (Int × Int)), (∀ p ∈ t, (0 ≤ p.1 ∧ p.1 < 4) ∧ 0 ≤ p.2 ∧ p.2 ≤ 255) → young x.loc t = some v → 0 ≤ v ∧ v ≤ 255 := by
          intro t
          induction t with
          | nil => intro _ h; simp [young] at h
          | cons q t ih =>
            intro hq h
            simp only [young] at h
            cases hy : young x.loc t with
            | some u =>
              simp only [hy, Option.some.injEq] at h
              subst h
              exact ih (fun p hp => hq p (by simp [hp])) hy
            | none =>
              simp only [hy] at h
              split at h
              · simp only [Option.some.injEq] at h
                rw [← h]
                exact (hq q (by simp)).2
              · cases h
        exact key bs hbuf hv
      have hl1 : loc1 x l ⟨pc, g, bs, false, false⟩ = ⟨on l pc 1, set g x.dst v, bs, false, false⟩ := by simp [loc1, h1, hv]
      rw [hl1]
      refine ⟨⟨on1.1, on1.2, set_u8 hg _ hv8, hbuf, hlen, rfl, rfl, hm⟩, ?_, mlt _ 0 on2 on1.2 (by omega)⟩
      rw [on_fin ht.len]
      have e1 : spc x g pc = pc + 1 := by simp [spc, h1]
      have e2 : sreg x g (over bs m) = set g x.dst v := by simp [sreg, h1, hov]
      have e3 : smem x g (over bs m) = over bs m := by simp [smem, h1]
      rw [e1, e2, e3]
    · have hl1 : loc1 x l ⟨pc, g, bs, false, false⟩ = ⟨on l pc 1, g, bs ++ [(x.loc, value g x.ra x.na)], false, false⟩ := by simp [loc1, h2]
      rw [hl1]
      refine ⟨⟨on1.1, on1.2, hg, ?_, ?_, rfl, rfl, hm⟩, ?_, ?_⟩
      · intro p hp
        rcases List.mem_append.1 hp with hp | hp
        · exact hbuf p hp
        · rw [List.mem_singleton.1 hp]
          exact ⟨hxl, va⟩
      · simp only [List.length_append, List.length_cons, List.length_nil]
        omega
      · rw [on_fin ht.len]
        have e1 : spc x g pc = pc + 1 := by simp [spc, h2]
        have e2 : sreg x g (over bs m) = g := by simp [sreg, h2]
        have e3 : smem x g (over bs m) = putm (over bs m) x.loc (value g x.ra x.na) := by simp [smem, h2]
        rw [e1, e2, e3, over_snoc]
      · have := mlt _ 1 on2 on1.2 (by omega)
        simpa [meas] using this
    · have hl1 : loc1 x l ⟨pc, g, bs, false, false⟩ = ⟨on l pc 1, set g x.dst (mov x.fn (value g x.ra x.na) (value g x.rb x.nb)), bs, false, false⟩ := by simp [loc1, h3]
      rw [hl1]
      refine ⟨⟨on1.1, on1.2, set_u8 hg _ (mov_u8 _ _ _), hbuf, hlen, rfl, rfl, hm⟩, ?_, mlt _ 0 on2 on1.2 (by omega)⟩
      rw [on_fin ht.len]
      have e1 : spc x g pc = pc + 1 := by simp [spc, h3]
      have e2 : sreg x g (over bs m) = set g x.dst (mov x.fn (value g x.ra x.na) (value g x.rb x.nb)) := by simp [sreg, h3]
      have e3 : smem x g (over bs m) = over bs m := by simp [smem, h3]
      rw [e1, e2, e3]
    · have hl1 : loc1 x l ⟨pc, g, bs, false, false⟩ = ⟨on l pc 1, g, bs, false, false⟩ := by simp [loc1, h7]
      rw [hl1]
      refine ⟨⟨on1.1, on1.2, hg, hbuf, hlen, rfl, rfl, hm⟩, ?_, mlt _ 0 on2 on1.2 (by omega)⟩
      rw [on_fin ht.len]
      have e1 : spc x g pc = pc + 1 := by simp [spc, h7]
      have e2 : sreg x g (over bs m) = g := by simp [sreg, h7]
      have e3 : smem x g (over bs m) = over bs m := by simp [smem, h7]
      rw [e1, e2, e3]
    · have hl1 : loc1 x l ⟨pc, g, bs, false, false⟩ = ⟨on l pc (if tst x.fn (value g x.ra x.na) (value g x.rb x.nb) = true then 1 + x.skip else 1), g, bs, false, false⟩ := by simp [loc1, h8]
      rw [hl1]
      have hk := ux8.1
      have hn1 : 1 ≤ (if tst x.fn (value g x.ra x.na) (value g x.rb x.nb) = true then 1 + x.skip else 1) := by split <;> omega
      generalize hN : (if tst x.fn (value g x.ra x.na) (value g x.rb x.nb) = true then 1 + x.skip else 1) = n at hn1
      have on3 := on_le (l := l) (pc := pc) (n := n) p0 (by omega)
      have on4 := on_gt (pc := pc) (n := n) ht.len (by omega) hn1
      refine ⟨⟨on3.1, on3.2, hg, hbuf, hlen, rfl, rfl, hm⟩, ?_, mlt _ 0 on4 on3.2 (by omega)⟩
      rw [on_fin ht.len]
      have e1 : spc x g pc = pc + n := by
        rw [← hN]
        simp only [spc, h8, true_and]
        split <;> omega
      have e2 : sreg x g (over bs m) = g := by simp [sreg, h8]
      have e3 : smem x g (over bs m) = over bs m := by simp [smem, h8]
      rw [e1, e2, e3]
  · left
    have hxm := List.mem_of_getElem? hx
    have hlt := (List.getElem?_eq_some_iff.1 hx).1
    obtain ⟨-, ux2, -, ux4, ux5, -, -, ux8⟩ := ht.ok x hxm
    have hxl := ht.loc x hxm
    have va := value_u8 hg x.ra ux4.1 ux4.2
    have vb := value_u8 hg x.rb ux5.1 ux5.2
    have on1 := on_le (l := l) (pc := pc) (n := 1) p0 (by omega)
    have on2 := on_gt (pc := pc) (n := 1) ht.len (by omega) (by omega)
    have hgo : ∀ o, ask l ⟨pc, g, bs, false, false⟩ = o → go l b ⟨pc, g, bs, false, false⟩ m = perform l ⟨pc, g, bs, true, false⟩ m o := fun o ho => by
      rw [← ho]
      simp only [go, hn, Int.reduceEq, if_false, if_true]
    have hme : 2 * (l.length - (on l pc 1).toNat) + bs.length < 2 * (l.length - pc.toNat) + bs.length := by omega
    have hb : ∀ old, back l ⟨pc, g, bs, true, false⟩ old = ⟨on l pc 1, if x.op = 2 then g else set g x.dst old, bs, false, false⟩ := fun old => by
      simp only [back, hx, Bool.false_eq_true, if_false, if_true]
    rw [fin_step hs p0 hx]
    obtain ⟨h1, hy⟩ | ⟨h2, hbb⟩ | ⟨h456, hb0⟩ := hop
    · rw [hgo ⟨1, x.loc, 0, 0⟩ (by simp [ask, hx, h1])]
      have hov := over_young hxl bs m fun p hp => (hbuf p hp).1
      rw [hy] at hov
      simp only [perform, hb, h1, Int.reduceEq, if_false]
      have ha : after ⟨1, x.loc, 0, 0⟩ (m (at4 x.loc)) = m (at4 x.loc) := by simp [after]
      rw [ha, putm_same]
      refine ⟨trivial, ⟨on1.1, on1.2, set_u8 hg _ (hm _), hbuf, hlen, rfl, rfl, hm⟩, ?_, hme⟩
      rw [on_fin ht.len]
      have e1 : spc x g pc = pc + 1 := by simp [spc, h1]
      have e2 : sreg x g (over bs m) = set g x.dst (m (at4 x.loc)) := by simp [sreg, h1, hov]
      have e3 : smem x g (over bs m) = over bs m := by simp [smem, h1]
      rw [e1, e2, e3]
    · have hbs : bs = [] := List.eq_nil_of_length_eq_zero (by omega)
      subst hbs
      rw [hgo ⟨2, x.loc, value g x.ra x.na, 0⟩ (by simp [ask, hx, h2])]
      simp only [perform, hb, h2, if_true]
      have ha : after ⟨2, x.loc, value g x.ra x.na, 0⟩ (m (at4 x.loc)) = value g x.ra x.na := by simp [after]
      rw [ha]
      refine ⟨trivial, ⟨on1.1, on1.2, hg, hbuf, hlen, rfl, rfl, putm_u8 hm _ va⟩, ?_, hme⟩
      rw [on_fin ht.len]
      have e1 : spc x g pc = pc + 1 := by simp [spc, h2]
      have e2 : sreg x g (over [] m) = g := by simp [sreg, h2]
      have e3 : smem x g (over [] m) = putm m x.loc (value g x.ra x.na) := by simp [smem, h2, over]
      rw [e1, e2, e3]
      rfl
    · subst hb0
      have hx2 : ¬ x.op = 2 := by omega
      have e1 : spc x g pc = pc + 1 := by
        have : ¬ x.op = 8 := by omega
        simp [spc, this]
      have e2 : sreg x g (over [] m) = set g x.dst (m (at4 x.loc)) := by
        have : ¬ x.op = 3 := by omega
        have h' : x.op = 1 ∨ x.op = 4 ∨ x.op = 5 ∨ x.op = 6 := by omega
        simp only [sreg, if_neg this, if_pos h', over]
      rw [e1, e2]
      have fin' : ∀ (v : Int), (0 ≤ v ∧ v ≤ 255) → smem x g (over [] m) = putm m x.loc v → ∀ o : Op, ask l ⟨pc, g, [], false, false⟩ = o → o.loc = x.loc → after o (m (at4 x.loc)) = v → _ := fun v hv h3 o ho hol hao => (show (go l b ⟨pc, g, [], false, false⟩ m).did = true ∧ Inv l b (go l b ⟨pc, g, [], false, false⟩ m).c (go l b ⟨pc, g, [], false, false⟩ m).m ∧ fin l (go l b ⟨pc, g, [], false, false⟩ m).c.pc (go l b ⟨pc, g, [], false, false⟩ m).c.g (over (go l b ⟨pc, g, [], false, false⟩ m).c.buf (go l b ⟨pc, g, [], false, false⟩ m).m) = fin l (pc + 1) (set g x.dst (m (at4 x.loc))) (smem x g (over [] m)) ∧ meas l (go l b ⟨pc, g, [], false, false⟩ m).c < meas l ⟨pc, g, [], false, false⟩ by
        rw [hgo o ho]
        simp only [perform, hb, if_neg hx2, hol, hao]
        refine ⟨trivial, ⟨on1.1, on1.2, set_u8 hg _ (hm _), hbuf, hlen, rfl, rfl, putm_u8 hm _ hv⟩, ?_, hme⟩
        rw [on_fin ht.len, h3]
        rfl)
      rcases h456 with h | h | h
      · exact fin' (value g x.ra x.na) va (by simp [smem, h, over]) _ (by simp [ask, hx, h]; rfl) rfl (by simp [after])
      · have hw8 : 0 ≤ Go.IntKind.u8.wrap (m (at4 x.loc) + value g x.ra x.na) ∧ Go.IntKind.u8.wrap (m (at4 x.loc) + value g x.ra x.na) ≤ 255 := by
          rw [Go.IntKind.wrap_u8]
          omega
        exact fin' _ hw8 (by simp [smem, h, over]) _ (by simp [ask, hx, h]; rfl) rfl (by simp [after])
      · by_cases he : m (at4 x.loc) = value g x.ra x.na
        · exact fin' (value g x.rb x.nb) vb (by simp [smem, h, over, he]) _ (by simp [ask, hx, h]; rfl) rfl (by simp [after, he])
        · exact fin' (m (at4 x.loc)) (hm _) (by rw [putm_same]; simp [smem, h, over, he]) _ (by simp [ask, hx, h]; rfl) rfl (by simp [after, he])
  · exfalso
    rcases hst with h | h | h | ⟨x, hx, h⟩
    · cases h
    · cases h
    · cases bs with
      | nil => exact h rfl
      | cons p t => exact hdr ⟨p, t, rfl, .inr hn⟩
    · exact h (ht.op x (List.mem_of_getElem? hx))
end Go.Proofs.Ytkpolehpdgnliaa.Pl
namespace Go.Proofs.Ytkpolehpdgnliaa.Pl
def tm (x : Ins) : Ins := { x with op := 1 + x.op % 8, loc := x.loc % 4 }
def tame (l : List Ins) : List Ins := (l.take 60).map tm
theorem tame_ok {l : List Ins} (h : ∀ x ∈ l, x.Ok) : Tame (tame l) := by
  have key : ∀ y ∈ tame l, ∃ x, x.Ok ∧ y = tm x := fun y hy => by
    obtain ⟨x, hx, rfl⟩ := List.mem_map.1 hy
    exact ⟨x, h x (List.mem_of_mem_take hx), rfl⟩
  refine ⟨by simp [tame]; omega, fun y hy => ?_, fun y hy => ?_, fun y hy => ?_⟩
  · obtain ⟨x, hx, rfl⟩ := key y hy
    obtain ⟨a1, a2, a3, a4, a5, a6, a7, a8⟩ := hx
    simp only [u8] at a1 a3
    refine ⟨?_, a2, ?_, a4, a5, a6, a7, a8⟩
    · simp only [tm, u8]
      omega
    · simp only [tm, u8]
      omega
  · obtain ⟨x, hx, rfl⟩ := key y hy
    have := hx.op
    simp only [u8] at this
    simp only [tm]
    omega
  · obtain ⟨x, hx, rfl⟩ := key y hy
    have := hx.loc
    simp only [u8] at this
    simp only [tm]
    omega
def pick (x n : Int) : Int := if x % n < 0 then x % n + n else x % n
end Go.Proofs.Ytkpolehpdgnliaa.Pl
namespace Go.Proofs.Ytkpolehpdgnliaa.Pl
theorem alone_cases (l : List Ins) (b : Int) (pc : Int) (g : Nat → Int) (bs : List (Int × Int)) (m : Nat → Int) (dr : Bool) :
    (∃ p t, bs = p :: t ∧ (alone l b ⟨pc, g, bs, false, false⟩ m dr).c = ⟨pc, g, t, false, false⟩) ∨ alone l b ⟨pc, g, bs, false, false⟩ m dr = go l b ⟨pc, g, bs, false, false⟩ m := by
  cases bs with
  | nil => exact .inr rfl
  | cons p t =>
    cases hc : dr || next l b ⟨pc, g, p :: t, false, false⟩ == 4 with
    | true =>
      left
      refine ⟨p, t, rfl, ?_⟩
      simp only [alone, drains, Bool.or_self, Bool.false_eq_true, if_false, List.head?_cons, hc, if_true]
      rfl
    | false =>
      right
      simp only [alone, drains, Bool.or_self, Bool.false_eq_true, if_false, List.head?_cons, hc]
/-- What a step that is not a drain does to the buffer. -/
theorem go_buf (l : List Ins) (b : Int) (pc : Int) (g : Nat → Int) (bs : List (Int × Int)) (m : Nat → Int) (p0 : 0 ≤ pc) {x : Ins} (hx : l[pc.toNat]? = some x) :
    (go l b ⟨pc, g, bs, false, false⟩ m).c = ⟨pc, g, bs, false, false⟩ ∨
    ((go l b ⟨pc, g, bs, false, false⟩ m).c.buf = bs ∧ (x.op = 7 → bs = [] ∨ x.mode ≠ 3) ∧ (4 ≤ x.op → x.op ≤ 6 → bs = [])) ∨
    ((go l b ⟨pc, g, bs, false, false⟩ m).c.buf = bs ++ [(x.loc, value g x.ra x.na)] ∧ x.op = 2) := by
  have hf := next_facts l b pc g bs false false p0
  obtain ⟨hn, hpc, -, hb0⟩ | ⟨hn, -, y, hy, hop⟩ | ⟨hn, -, -, y, hy, hop⟩ | ⟨hn, hst⟩ := hf
  · have := (List.getElem?_eq_some_iff.1 hx).1
    omega
  · rw [hx] at hy
    obtain rfl := Option.some.inj hy
    have hgo : go l b ⟨pc, g, bs, false, false⟩ m = ⟨loc1 x l ⟨pc, g, bs, false, false⟩, m, true⟩ := by simp only [go, hn, if_true, loc, hx]
    rw [hgo]
    by_cases h2 : x.op = 2
    · right; right
      simp [loc1, h2]
    · right; left
      refine ⟨?_, fun h => ?_, fun h h' => ?_⟩
      · by_cases h3 : x.op = 3
        · simp [loc1, h3]
        by_cases h8 : x.op = 8
        · simp [loc1, h8]
        by_cases h7 : x.op = 7
        · simp [loc1, h7]
        have h1 : x.op = 1 := by omega
        simp [loc1, h1]
      · rcases hop with h' | h' | h' | h' | h'
        · omega
        · omega
        · omega
        · exact h'.2
        · omega
      · omega
  · rw [hx] at hy
    obtain rfl := Option.some.inj hy
    have hgo : (go l b ⟨pc, g, bs, false, false⟩ m).c = back l ⟨pc, g, bs, true, false⟩ (m (at4 (ask l ⟨pc, g, bs, false, false⟩).loc)) := by simp only [go, hn, Int.reduceEq, if_false, if_true, perform]
    right; left
    rw [hgo]
    refine ⟨?_, fun h => ?_, fun h h' => ?_⟩
    · simp only [back, Bool.false_eq_true, if_false, if_true]
    · omega
    · rcases hop with ⟨h1, -⟩ | ⟨h1, -⟩ | ⟨-, h1⟩
      · omega
      · omega
      · exact h1
  · left
    have hgo : go l b ⟨pc, g, bs, false, false⟩ m = ⟨⟨pc, g, bs, false, false⟩, m, false⟩ := by simp only [go, hn, Int.reduceEq, if_false]
    rw [hgo]
/-- The buffer is empty behind a full fence, a swap, a fetch and a cas. -/
theorem fence_empty {l : List Ins} {b pc : Int} {g : Nat → Int} {bs : List (Int × Int)} {m : Nat → Int} {dr : Bool} (p0 : 0 ≤ pc) {x : Ins} (hx : l[pc.toNat]? = some x) (hp : (alone l b ⟨pc, g, bs, false, false⟩ m dr).c.pc ≠ pc) (ho : (x.op = 7 ∧ x.mode = 3) ∨ (4 ≤ x.op ∧ x.op ≤ 6)) :
    (alone l b ⟨pc, g, bs, false, false⟩ m dr).c.buf = [] := by
  rcases alone_cases l b pc g bs m dr with ⟨p, t, -, h⟩ | h
  · rw [h] at hp
    exact absurd rfl hp
  · rw [h] at hp ⊢
    rcases go_buf l b pc g bs m p0 hx with h1 | ⟨h1, h2, h3⟩ | ⟨-, h2⟩
    · rw [h1] at hp
      exact absurd rfl hp
    · rw [h1]
      rcases ho with ⟨h4, h5⟩ | ⟨h4, h5⟩
      · exact (h2 h4).resolve_right fun h => h h5
      · exact h3 h4 h5
    · omega
theorem fence_local {l : List Ins} {b pc : Int} {g : Nat → Int} {bs : List (Int × Int)} {x : Ins} (hx : l[pc.toNat]? = some x) (h7 : x.op = 7) (hm : x.mode ≠ 3) : next l b ⟨pc, g, bs, false, false⟩ = 2 := by
  simp [next, hx, h7, hm, free]
end Go.Proofs.Ytkpolehpdgnliaa.Pl
