/- A loop's record as a live block: laid, written, read; the blocks of the marks that ranges over functions leave among the deferred calls. -/
import Derived.Test.YtijpomemobgddaaGreatDoorE15
import Derived.RangeFuncNested
set_option linter.unusedSimpArgs false
set_option linter.unusedVariables false
namespace Go.Proofs.YtijpomemobgddaaGreatDoor.Ev
open Go Go.RowKit
variable {Gd : GD} {P : Program} {T : Tb}

theorem recV_RL {ρ : List Nat} {own : Nat → Prop} {w : World} {sl : List Nat} {rc : Loop} {vs : List A} {s p : Int} (hs : stV rc.state = .int .i64 s) (hp : peV rc.pending = .int .i64 p) (h : RL ρ own w vs (sl.map fun s => rc.tmps.getD s undef)) : RL ρ own w (.v (.int .i64 s) :: .v (.int .i64 p) :: vs) (recV sl rc) :=
  RL.cons (by rw [R]; exact hs) (RL.cons (by rw [R]; exact hp) h)
/-- A record is laid. -/
theorem newRec {c : Cfg} (ok : Ok Gd c) {rc : Loop} {nt : Nat} {ps sl : List Nat} {ma mb : M} {rest : List A} (hlk : Gd.lk nt ps sl ma mb rc) (hr : RL c.ρ c.own c.w rest (recV sl rc)) :
    ∃ c', c'.H = c.H ++ [some ⟨0, .lrec nt ps sl ma mb :: rest, true⟩] ∧ c'.w = c.w.alloc (.loop rc) ∧ To c c' ∧ Ok Gd c' ∧ c'.ρ[c.H.length]? = some c.w.heap.size ∧ c'.w.heap[c.w.heap.size]? = some (.loop rc) :=
  newSp ok fun _ _ _ k h => .inr (.inr (.inl ⟨rc, nt, ps, sl, ma, mb, rest, h, rfl, hlk, RL.keep k _ _ hr⟩))
/-- A record is written. -/
theorem setRec {c : Cfg} (ok : Ok Gd c) {b g : Nat} {k : Blk} {rc rc' : Loop} {nt : Nat} {ps sl : List Nat} {ma mb : M} {rest : List A} (hb : c.H[b]? = some (some k)) (hg : c.ρ[b]? = some g) (hcur : c.w.heap[g]? = some (.loop rc))
    (hlk : Gd.lk nt ps sl ma mb rc') (hr : RL c.ρ c.own c.w rest (recV sl rc')) :
    ∃ c', c'.H = c.H.set b (some ⟨0, .lrec nt ps sl ma mb :: rest, true⟩) ∧ c'.w = c.w.putObj g (.loop rc') ∧ To c c' ∧ Ok Gd c' ∧ c'.ρ = c.ρ :=
  setSp ok hb hg hcur (by simp [okind]) rfl fun _ _ _ k h => .inr (.inr (.inl ⟨rc', nt, ps, sl, ma, mb, rest, h, rfl, hlk, RL.keep k _ _ hr⟩))

/-- A record is read. -/
theorem rec_ok {c : Cfg} (ok : Ok Gd c) {b g : Nat} {rr : RecA} (h : recOf c.H b = some rr) (hg : c.ρ[b]? = some g) :
    ∃ k r, c.H[b]? = some (some k) ∧ c.w.heap[g]? = some (.loop r) ∧ Gd.lk rr.nt rr.ps rr.sl rr.a rr.b r ∧ stV r.state = .int .i64 rr.s ∧ peV r.pending = .int .i64 rr.p ∧ RL c.ρ c.own c.w rr.vs (rr.sl.map fun s => r.tmps.getD s undef) := by
  unfold recOf at h
  split at h
  · rename_i k hk
    split at h
    · rename_i nt ps sl a bd s p vs hcs
      simp only [Option.some.injEq] at h
      subst h
      rcases ok.blk b k.e k.cs k.whole g hk hg with ⟨cur, xs, -, h2, -⟩ | ⟨es, n, -, h2, -⟩ | ⟨r, nt', ps', sl', a', b', rest, h1, h2, h3, h4⟩ | ⟨s', p', -, h2⟩
      · rw [hcs, RL] at h2
        obtain ⟨x, xs, -, h5, -⟩ := h2
        rw [R] at h5
        exact h5.elim
      · rw [hcs, RL] at h2
        obtain ⟨x, xs, -, h5, -⟩ := h2
        rw [R] at h5
        exact h5.elim
      · rw [hcs] at h2
        simp only [List.cons.injEq, A.lrec.injEq] at h2
        obtain ⟨⟨rfl, rfl, rfl, rfl, rfl⟩, rfl⟩ := h2
        simp only [recV, RL, List.cons.injEq] at h4
        obtain ⟨x, xs, ⟨rfl, rfl⟩, h5, y, ys, ⟨rfl, rfl⟩, h6, h7⟩ := h4
        rw [R] at h5 h6
        exact ⟨k, r, hk, h1, h3, h5, h6, h7⟩
      · rw [hcs] at h2
        simp at h2
    · cases h
  · cases h

/-- The block of a mark: owned, no live block, empty. -/
structure MarkAt (c0 c : Cfg) (D : Nat) : Prop where
  new : c0.w.heap.size ≤ D
  lt : D < c.w.heap.size
  own : c.own D
  off : ¬ img c.ρ c.H D
  lies : c.w.heap[D]? = some (.deferred (some []))
theorem MarkAt.to {c0 c c' : Cfg} {D : Nat} (h : MarkAt c0 c D) (ht : To c c') : MarkAt c0 c' D :=
  ⟨h.new, Nat.lt_of_lt_of_le h.lt ht.size, (ht.own D h.lt).2 h.own, fun hi => h.off (ht.img D h.lt hi), (ht.same D h.lt h.off).trans h.lies⟩
def markOf (D : Nat) : Deferred := { target := .collected D, args := #[] }
def MarksOk (c0 c : Cfg) (ds : List Deferred) : Prop := ∃ Ds : List Nat, Ds.Nodup ∧ ds = Ds.map markOf ∧ ∀ D ∈ Ds, MarkAt c0 c D
theorem MarksOk.nil {c0 c : Cfg} : MarksOk c0 c [] := ⟨[], List.nodup_nil, rfl, fun _ h => by cases h⟩
theorem MarksOk.to {c0 c c' : Cfg} {ds : List Deferred} (h : MarksOk c0 c ds) (ht : To c c') : MarksOk c0 c' ds :=
  let ⟨Ds, h1, h2, h3⟩ := h; ⟨Ds, h1, h2, fun D hD => (h3 D hD).to ht⟩
theorem MarksOk.app {c0 c1 c2 : Cfg} {ds1 ds2 : List Deferred} (h1 : MarksOk c0 c1 ds1) (h01 : To c0 c1) (h12 : To c1 c2) (h2 : MarksOk c1 c2 ds2) : MarksOk c0 c2 (ds2 ++ ds1) := by
  obtain ⟨D1, a1, a2, a3⟩ := h1
  obtain ⟨D2, b1, b2, b3⟩ := h2
  refine ⟨D2 ++ D1, ?_, by rw [a2, b2, List.map_append], fun D hD => ?_⟩
  · refine List.nodup_append.2 ⟨b1, a1, fun x hx y hy he => ?_⟩
    subst he
    have := (b3 x hx).new
    have := (a3 x hy).lt
    omega
  · rcases List.mem_append.1 hD with h | h
    · have := b3 D h
      exact ⟨Nat.le_trans h01.size this.new, this.lt, this.own, this.off, this.lies⟩
    · exact (a3 D h).to h12
/-- The block of a mark is laid. -/
theorem newMark {c : Cfg} (ok : Ok Gd c) : ∃ c' : Cfg, c'.w = c.w.alloc (.deferred (some [])) ∧ c'.H = c.H ∧ c'.ρ = c.ρ ∧ To c c' ∧ Ok Gd c' ∧ MarkAt c c' c.w.heap.size := by
  have hsize : (c.w.alloc (.deferred (some []))).heap.size = c.w.heap.size + 1 := World.size_alloc ..
  have hold : ∀ g, g < c.w.heap.size → (c.w.alloc (.deferred (some []))).heap[g]? = c.w.heap[g]? := fun g hg => alloc_old hg
  have hto : To c ⟨c.ρ, fun g => c.own g ∨ g = c.w.heap.size, c.H, c.w.alloc (.deferred (some []))⟩ :=
    ⟨List.prefix_rfl, by simp [hsize], rfl, rfl, rfl, fun _ _ h => h, fun g hg _ => hold g hg, fun g cur1 e1 fz1 h1 => ⟨cur1, fz1, (hold g (Array.getElem?_eq_some_iff.1 h1).1).trans h1, rfl⟩, fun g es1 n1 h1 => ⟨es1, n1, (hold g (Array.getElem?_eq_some_iff.1 h1).1).trans h1⟩, fun g o h1 _ => ⟨o, (hold g (Array.getElem?_eq_some_iff.1 h1).1).trans h1, rfl⟩,
     fun g hg => ⟨fun h => h.elim id fun h => by omega, .inl⟩⟩
  refine ⟨⟨c.ρ, fun g => c.own g ∨ g = c.w.heap.size, c.H, c.w.alloc (.deferred (some []))⟩, rfl, rfl, rfl, hto, ⟨ok.len, ?_, fun g hg => .inl (ok.img g hg), fun b e cs wh g hb hg => ?_, ok.inj, hto.glob ok⟩, Nat.le_refl _, by simp [hsize], .inr rfl, fun hi => ?_, World.alloc_heap_new ..⟩
  · rintro g (h | h)
    · exact Nat.lt_of_lt_of_le (ok.lt g h) hto.size
    · simp [hsize, h]
  · exact (ok.blk b e cs wh g hb hg).keep (hto.keeps ok) (hold g (ok.lt_blk hb hg))
  · have := ok.lt _ (ok.img _ hi)
    omega
/-- A mark is come to: its block is shut. -/
theorem shutMark {c0 c : Cfg} (ok : Ok Gd c) (ht : To c0 c) {D : Nat} (h : MarkAt c0 c D) :
    Keeps c.ρ c.own c.w c.ρ c.own (c.w.putObj D (.deferred none)) ∧ Ok Gd ⟨c.ρ, c.own, c.H, c.w.putObj D (.deferred none)⟩ ∧ To c0 ⟨c.ρ, c.own, c.H, c.w.putObj D (.deferred none)⟩ ∧
      ∀ D', D' ≠ D → MarkAt c0 c D' → MarkAt c0 ⟨c.ρ, c.own, c.H, c.w.putObj D (.deferred none)⟩ D' := by
  have hl := h.lies
  have other : ∀ g, g ≠ D → (c.w.putObj D (.deferred none)).heap[g]? = c.w.heap[g]? := fun g hg => World.putObj_heap_other hg
  have shape : ∀ (g : Nat) (cur : Array Value) (e : TypeId) (fz : Nat × Nat), c.w.heap[g]? = some (.cells cur e fz) → ∃ (cur' : Array Value) (fz' : Nat × Nat), (c.w.putObj D (.deferred none)).heap[g]? = some (.cells cur' e fz') ∧ cur'.size = cur.size := fun g cur e fz hc => ⟨cur, fz, (other g (by rintro rfl; rw [hl] at hc; cases hc)).trans hc, rfl⟩
  have maps : ∀ (g : Nat) es n, c.w.heap[g]? = some (.map es n) → ∃ es' n', (c.w.putObj D (.deferred none)).heap[g]? = some (.map es' n') := fun g es n hc => ⟨es, n, (other g (by rintro rfl; rw [hl] at hc; cases hc)).trans hc⟩
  have kinds : ∀ (g : Nat) o, c.w.heap[g]? = some o → okind o ≠ 0 → ∃ o', (c.w.putObj D (.deferred none)).heap[g]? = some o' ∧ okind o' = okind o := fun g o hc h0 => ⟨o, (other g (by rintro rfl; rw [hl] at hc; cases hc; exact h0 rfl)).trans hc, rfl⟩
  have hk : Keeps c.ρ c.own c.w c.ρ c.own (c.w.putObj D (.deferred none)) := ⟨List.prefix_rfl, by simp, fun g _ ho => ⟨ho, other g (by rintro rfl; exact ho h.own)⟩, shape, maps, kinds⟩
  refine ⟨hk, ⟨ok.len, fun g hg => by simpa using ok.lt g hg, ok.img, fun b e cs wh g hb hg => ?_, ok.inj, ?_⟩, ?_, fun D' hne h' => ⟨h'.new, by simpa using h'.lt, h'.own, h'.off, (other D' hne).trans h'.lies⟩⟩
  · exact (ok.blk b e cs wh g hb hg).keep hk (other g (by rintro rfl; exact h.off ⟨b, _, hb, hg⟩))
  · exact ok.glob.keep hk
  · exact ⟨ht.pre, by simpa using ht.size, ht.os, ht.tape, ht.output, ht.img, fun g hg hn => (other g (by have := h.new; omega)).trans (ht.same g hg hn),
      fun g cur e fz hc => let ⟨c1, f1, h1, h2⟩ := ht.shape g cur e fz hc; let ⟨c2, f2, h3, h4⟩ := shape g c1 e f1 h1; ⟨c2, f2, h3, h4.trans h2⟩,
      fun g es n hc => let ⟨es1, n1, h1⟩ := ht.maps g es n hc; maps g es1 n1 h1,
      fun g o hc h0 => let ⟨o1, h1, h2⟩ := ht.kinds g o hc h0; let ⟨o2, h3, h4⟩ := kinds g o1 h1 (by rw [h2]; exact h0); ⟨o2, h3, h4.trans h2⟩, ht.own⟩
/-! What is left when the new blocks are let go. -/
theorem blt_lt {a b : Nat} (h : Nat.blt a b = true) : a < b := Nat.le_of_ble_eq_true h
theorem pre_low {ρ ρ' : List Nat} (hp : ρ <+: ρ') {b g : Nat} (hb : b < ρ.length) (h : ρ'[b]? = some g) : ρ[b]? = some g := by
  obtain ⟨t, rfl⟩ := hp
  rwa [List.getElem?_append_left hb] at h
mutual
theorem R.low {ρ ρ' : List Nat} (hp : ρ <+: ρ') {own : Nat → Prop} {w : World} : ∀ (a : A) (y : Value), lowA ρ.length a = true → R ρ' own w a y → R ρ own w a y
  | .v x, y, _, h => by rw [R] at *; exact h
  | .agg cs, y, hl, h => by
    rw [R] at *
    obtain ⟨xs, h1, h2⟩ := h
    exact ⟨xs, h1, RL.low hp cs xs (by simpa [lowA] using hl) h2⟩
  | .tup cs, y, hl, h => by
    rw [R] at *
    obtain ⟨xs, h1, h2⟩ := h
    exact ⟨xs, h1, RL.low hp cs xs (by simpa [lowA] using hl) h2⟩
  | .ptr b off, y, hl, h => by
    rw [R] at *
    obtain ⟨g, h1, h2⟩ := h
    exact ⟨g, pre_low hp (blt_lt (by simpa [lowA] using hl)) h1, h2⟩
  | .ref b off len sz, y, hl, h => by
    rw [R] at *
    obtain ⟨g, cap, cur, e, fz, h1, h2⟩ := h
    exact ⟨g, cap, cur, e, fz, pre_low hp (blt_lt (by simpa [lowA] using hl)) h1, h2⟩
  | .sl len cs, y, _, h => by rw [R] at *; exact h
  | .fp cs, y, _, h => by rw [R] at *; exact h
  | .mp b, y, hl, h => by
    rw [R] at *
    obtain ⟨g, h1, h2⟩ := h
    exact ⟨g, pre_low hp (blt_lt (by simpa [lowA] using hl)) h1, h2⟩
  | .mf cs, y, _, h => by rw [R] at *; exact h
  | .clo f fs caps, y, hl, h => by
    rw [R] at *
    simp only [lowA, Bool.and_eq_true] at hl
    obtain ⟨xs, ys, h1, h2, h3⟩ := h
    exact ⟨xs, ys, h1, RL.low hp fs xs hl.1 h2, RL.low hp caps ys hl.2 h3⟩
  | .yl b, y, hl, h => by
    rw [R] at *
    obtain ⟨g, h1, h2⟩ := h
    exact ⟨g, pre_low hp (blt_lt (by simpa [lowA] using hl)) h1, h2⟩
  | .lrec nt ps sl a b, y, _, h => by rw [R] at h; exact h.elim
  | .it b, y, hl, h => by
    rw [R] at *
    obtain ⟨g, h1, h2⟩ := h
    exact ⟨g, pre_low hp (blt_lt (by simpa [lowA] using hl)) h1, h2⟩
  | .its s p, y, _, h => by rw [R] at h; exact h.elim
theorem RL.low {ρ ρ' : List Nat} (hp : ρ <+: ρ') {own : Nat → Prop} {w : World} : ∀ (cs : List A) (ys : List Value), lowL ρ.length cs = true → RL ρ' own w cs ys → RL ρ own w cs ys
  | [], ys, _, h => by rw [RL] at *; exact h
  | c :: cs, ys, hl, h => by
    rw [RL] at *
    simp only [lowL, Bool.and_eq_true] at hl
    obtain ⟨x, xs, h1, h2, h3⟩ := h
    exact ⟨x, xs, h1, R.low hp c x hl.1 h2, RL.low hp cs xs hl.2 h3⟩
end
theorem lowH_get {n : Nat} : ∀ (k : Nat) (H : Heap), lowH n k H = true → ∀ (b : Nat) (blk : Blk), b < k → H[b]? = some (some blk) → lowL n blk.cs = true
  | 0, _, _, b, _, hb, _ => by omega
  | k + 1, [], _, b, _, _, hg => by simp at hg
  | k + 1, o :: H, h, b, blk, hb, hg => by
    simp only [lowH, Bool.and_eq_true] at h
    cases b with
    | zero =>
      simp only [List.getElem?_cons_zero, Option.some.injEq] at hg
      subst hg
      exact h.1
    | succ b => exact lowH_get k H h.2 b blk (by omega) (by simpa using hg)
theorem trim_ok {c c1 : Cfg} (ok : Ok Gd c) (ht : To c c1) (ok1 : Ok Gd c1) {x : A} {v : Value} (hx : lowA c.H.length x = true) (hH : lowH c.H.length c.H.length c1.H = true) (hr : R c1.ρ c1.own c1.w x v) :
    To c ⟨c.ρ, c1.own, c1.H.take c.H.length, c1.w⟩ ∧ Ok Gd ⟨c.ρ, c1.own, c1.H.take c.H.length, c1.w⟩ ∧ R c.ρ c1.own c1.w x v := by
  have hlen := ok.len
  have himg : ∀ g, img c.ρ (c1.H.take c.H.length) g → img c1.ρ c1.H g := by
    rintro g ⟨b, k, hb, hg⟩
    refine ⟨b, k, ?_, pre_get ht.pre hg⟩
    rw [List.getElem?_take] at hb
    split at hb
    · exact hb
    · cases hb
  have hgl : Gl Gd c1.own c1.w := ok1.glob
  refine ⟨⟨List.prefix_rfl, ht.size, ht.os, ht.tape, ht.output, fun g hg hi => ht.img g hg (himg g hi), ht.same, ht.shape, ht.maps, ht.kinds, ht.own⟩, ⟨?_, ok1.lt, fun g hg => ok1.img g (himg g hg), fun b e cs wh g hb hg => ?_, ?_, hgl⟩, ?_⟩
  · show c.ρ.length = (c1.H.take c.H.length).length
    have h1 := ht.pre.length_le
    have h2 := ok1.len
    rw [List.length_take]
    omega
  · simp only at hb hg
    have hlt : b < c.H.length := by
      rw [← hlen]
      exact (List.getElem?_eq_some_iff.1 hg).1
    rw [List.getElem?_take, if_pos hlt] at hb
    have hl := lowH_get _ _ hH b _ hlt hb
    simp only at hl
    rw [← hlen] at hl
    rcases ok1.blk b e cs wh g hb (pre_get ht.pre hg) with ⟨cur, xs, h1, h2, h3, h4⟩ | ⟨es, n, h1, h2, h3⟩ | ⟨r, nt, ps, sl, a, b', rest, h1, h2, h3, h4⟩ | ⟨s, p, h1, h2⟩
    · exact .inl ⟨cur, xs, h1, RL.low ht.pre _ _ hl h2, h3, h4⟩
    · exact .inr (.inl ⟨es, n, h1, RL.low ht.pre _ _ hl h2, h3⟩)
    · refine .inr (.inr (.inl ⟨r, nt, ps, sl, a, b', rest, h1, h2, h3, RL.low ht.pre _ _ ?_ h4⟩))
      rw [h2] at hl
      simp only [lowL, Bool.and_eq_true] at hl
      exact hl.2
    · exact .inr (.inr (.inr ⟨s, p, h1, h2⟩))
  · intro b b' k k' g hb hb' hg hg'
    simp only at hb hb' hg hg'
    rw [List.getElem?_take] at hb hb'
    split at hb
    · split at hb'
      · exact ok1.inj b b' k k' g hb hb' (pre_get ht.pre hg) (pre_get ht.pre hg')
      · cases hb'
    · cases hb
  · rw [← hlen] at hx
    exact R.low ht.pre x v hx hr
end Go.Proofs.YtijpomemobgddaaGreatDoor.Ev
