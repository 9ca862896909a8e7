/- Loops of further bodies, for simp. -/
import Derived.Test.YtijpomemobgddaaGreatDoorC1
import Derived.Test.YtijpomemobgddaaGreatDoorSB
set_option linter.unusedSimpArgs false
set_option linter.unusedVariables false
namespace Go.Proofs.YtijpomemobgddaaGreatDoor.Ev
open Go Go.RowKit
set_option maxRecDepth 100000
def g33_l0 : Got ((loopsM m33).getD 0 .bad) := by
 refine ⟨?m, ?h⟩
 case h => conv => lhs; cbv
def m33_l0 : M := g33_l0.m
theorem u33_l0 {C : Ctx} {k : List It} {st : St} {Q : Ex → St → Prop} : RunK C (.code m33_l0 :: k) st Q ↔ RunK C (.code g33_l0.m :: k) st Q := Iff.rfl
def g33_l1 : Got ((loopsM m33).getD 1 .bad) := by
 refine ⟨?m, ?h⟩
 case h => conv => lhs; cbv
def m33_l1 : M := g33_l1.m
theorem u33_l1 {C : Ctx} {k : List It} {st : St} {Q : Ex → St → Prop} : RunK C (.code m33_l1 :: k) st Q ↔ RunK C (.code g33_l1.m :: k) st Q := Iff.rfl
def g33_l2 : Got ((loopsM m33).getD 2 .bad) := by
 refine ⟨?m, ?h⟩
 case h => conv => lhs; cbv
def m33_l2 : M := g33_l2.m
theorem u33_l2 {C : Ctx} {k : List It} {st : St} {Q : Ex → St → Prop} : RunK C (.code m33_l2 :: k) st Q ↔ RunK C (.code g33_l2.m :: k) st Q := Iff.rfl
def g58_l0 : Got ((loopsM m58).getD 0 .bad) := by
 refine ⟨?m, ?h⟩
 case h => conv => lhs; cbv
def m58_l0 : M := g58_l0.m
theorem u58_l0 {C : Ctx} {k : List It} {st : St} {Q : Ex → St → Prop} : RunK C (.code m58_l0 :: k) st Q ↔ RunK C (.code g58_l0.m :: k) st Q := Iff.rfl
def g59_l0 : Got ((loopsM m59).getD 0 .bad) := by
 refine ⟨?m, ?h⟩
 case h => conv => lhs; cbv
def m59_l0 : M := g59_l0.m
theorem u59_l0 {C : Ctx} {k : List It} {st : St} {Q : Ex → St → Prop} : RunK C (.code m59_l0 :: k) st Q ↔ RunK C (.code g59_l0.m :: k) st Q := Iff.rfl
def g60_l0 : Got ((loopsM m60).getD 0 .bad) := by
 refine ⟨?m, ?h⟩
 case h => conv => lhs; cbv
def m60_l0 : M := g60_l0.m
theorem u60_l0 {C : Ctx} {k : List It} {st : St} {Q : Ex → St → Prop} : RunK C (.code m60_l0 :: k) st Q ↔ RunK C (.code g60_l0.m :: k) st Q := Iff.rfl
def g60_l1 : Got ((loopsM m60).getD 1 .bad) := by
 refine ⟨?m, ?h⟩
 case h => conv => lhs; cbv
def m60_l1 : M := g60_l1.m
theorem u60_l1 {C : Ctx} {k : List It} {st : St} {Q : Ex → St → Prop} : RunK C (.code m60_l1 :: k) st Q ↔ RunK C (.code g60_l1.m :: k) st Q := Iff.rfl
def g93_l0 : Got ((loopsM m93).getD 0 .bad) := by
 refine ⟨?m, ?h⟩
 case h => conv => lhs; cbv
def m93_l0 : M := g93_l0.m
theorem u93_l0 {C : Ctx} {k : List It} {st : St} {Q : Ex → St → Prop} : RunK C (.code m93_l0 :: k) st Q ↔ RunK C (.code g93_l0.m :: k) st Q := Iff.rfl
def g95_l0 : Got ((loopsM m95).getD 0 .bad) := by
 refine ⟨?m, ?h⟩
 case h => conv => lhs; cbv
def m95_l0 : M := g95_l0.m
theorem u95_l0 {C : Ctx} {k : List It} {st : St} {Q : Ex → St → Prop} : RunK C (.code m95_l0 :: k) st Q ↔ RunK C (.code g95_l0.m :: k) st Q := Iff.rfl
def g96_l0 : Got ((loopsM m96).getD 0 .bad) := by
 refine ⟨?m, ?h⟩
 case h => conv => lhs; cbv
def m96_l0 : M := g96_l0.m
theorem u96_l0 {C : Ctx} {k : List It} {st : St} {Q : Ex → St → Prop} : RunK C (.code m96_l0 :: k) st Q ↔ RunK C (.code g96_l0.m :: k) st Q := Iff.rfl
attribute [go_sem] fn32 m32 g32 fn33 m33 g33 u33_l0 g33_l0 u33_l1 g33_l1 u33_l2 g33_l2 fn58 m58 g58 u58_l0 g58_l0 fn59 m59 g59 u59_l0 g59_l0 fn60 m60 g60 u60_l0 g60_l0 u60_l1 g60_l1 fn61 m61 g61 fn93 m93 g93 u93_l0 g93_l0 fn94 m94 g94 fn95 m95 g95 u95_l0 g95_l0 fn96 m96 g96 u96_l0 g96_l0
attribute [go_sem] convB
end Go.Proofs.YtijpomemobgddaaGreatDoor.Ev
namespace Go.Proofs.YtijpomemobgddaaGreatDoor.Ev
open Go Go.RowKit
set_option maxRecDepth 100000
theorem idxC_not (c : UInt8) : ∀ (l : List UInt8) (i : Int), c ∉ l → idxB c.toNat l i = -1
  | [], i, _ => by simp [idxB]
  | b :: l, i, h => by
    have hb : Nat.beq b.toNat c.toNat = false := by
      rw [Bool.eq_false_iff]
      intro h'
      have h2 : b = c := UInt8.toNat_inj.1 (Nat.eq_of_beq_eq_true h')
      exact h (by rw [h2]; simp)
    rw [idxB, hb, cond_false]
    exact idxC_not c l _ fun h' => h (.tail _ h')
theorem idxC_at (c : UInt8) : ∀ (p r : List UInt8) (i : Int), c ∉ p → idxB c.toNat (p ++ c :: r) i = i + p.length
  | [], r, i, _ => by
    rw [List.nil_append, idxB, Nat.beq_refl, cond_true]
    simp
  | b :: p, r, i, h => by
    have hb : Nat.beq b.toNat c.toNat = false := by
      rw [Bool.eq_false_iff]
      intro h'
      have h2 : b = c := UInt8.toNat_inj.1 (Nat.eq_of_beq_eq_true h')
      exact h (by rw [h2]; simp)
    rw [List.cons_append, idxB, hb, cond_false, idxC_at c p r _ fun h' => h (.tail _ h'), List.length_cons]
    omega
theorem cutC_no {c : UInt8} {s : ByteArray} (h : c ∉ s.data.toList) : cutA c.toNat s = (s, .empty, false) := by
  unfold cutA
  rw [if_neg]
  rw [idxC_not c _ 0 h]
  omega
theorem cutC_at {c : UInt8} {p r : ByteArray} (h : c ∉ p.data.toList) : cutA c.toNat (p ++ ⟨#[c]⟩ ++ r) = (p, r, true) := by
  have hd : (p ++ ⟨#[c]⟩ ++ r).data.toList = p.data.toList ++ c :: r.data.toList := by simp
  have h1 : idxB c.toNat (p ++ ⟨#[c]⟩ ++ r).data.toList 0 = (p.size : Int) := by
    have := idxC_at c p.data.toList r.data.toList 0 h
    rw [hd, this, size_data]
    omega
  unfold cutA
  rw [h1, if_pos (by omega)]
  have hs : (p ++ ⟨#[c]⟩ ++ r).size = p.size + 1 + r.size := by simp [ByteArray.size_append, ba1_size]
  rw [hs]
  have e1 : (p ++ ⟨#[c]⟩ ++ r).extract 0 (p.size : Int).toNat = p := by
    apply ByteArray.ext
    apply Array.ext'
    rw [ByteArray.data_extract, Array.toList_extract, hd]
    have hz : p.data.toList.length = p.size := rfl
    simp [List.extract, List.take_append, hz]
  have e2 : (p ++ ⟨#[c]⟩ ++ r).extract ((p.size : Int).toNat + 1) (p.size + 1 + r.size) = r := by
    apply ByteArray.ext
    apply Array.ext'
    rw [ByteArray.data_extract, Array.toList_extract, hd]
    have hz : p.data.toList.length = p.size := rfl
    have hz2 : r.data.toList.length = r.size := rfl
    simp only [List.extract]
    rw [show ((p.size : Int).toNat + 1) = (p.data.toList ++ [c]).length by simp [hz], show p.data.toList ++ c :: r.data.toList = (p.data.toList ++ [c]) ++ r.data.toList by simp, List.drop_append_length]
    exact List.take_of_length_le (by simp [hz, hz2])
  rw [e1, e2]
theorem ba_ext {a b : ByteArray} (h : a.data.toList = b.data.toList) : a = b := ByteArray.ext (Array.ext' h)
theorem joinB_nil : joinB [] = ⟨⟨[]⟩⟩ := rfl
theorem joinB_one (w : ByteArray) : joinB [w] = w := by
  apply ba_ext
  show Lib.join [w.data.toList] sSp.data.toList = w.data.toList
  simp [Lib.join, List.intercalate]
theorem joinB_cons (w v : ByteArray) (ws : List ByteArray) : joinB (w :: v :: ws) = w ++ sSp ++ joinB (v :: ws) := by
  apply ba_ext
  show Lib.join (w.data.toList :: v.data.toList :: ws.map (·.data.toList)) sSp.data.toList = _
  rw [Lib.join_cons]
  show _ = (w ++ sSp ++ joinB (v :: ws)).data.toList
  have : (joinB (v :: ws)).data.toList = Lib.join (v.data.toList :: ws.map (·.data.toList)) sSp.data.toList := rfl
  rw [ByteArray.data_append, ByteArray.data_append, Array.toList_append, Array.toList_append, this, Lib.join_cons]
  simp [Lib.joinTail]
theorem splitF_join : ∀ (ws : List ByteArray) (k : Nat), ws ≠ [] → (∀ w ∈ ws, (32 : UInt8) ∉ w.data.toList) → ws.length ≤ k + 1 → splitF k (joinB ws) = ws
  | [], _, h, _, _ => absurd rfl h
  | [w], k, _, h, _ => by
    rw [joinB_one]
    have hc : cutA 32 w = (w, .empty, false) := cutC_no (c := 32) (h w (.head _))
    cases k with
    | zero => rfl
    | succ k => simp [splitF, hc]
  | w :: v :: ws, 0, _, _, hl => by simp at hl
  | w :: v :: ws, k + 1, _, h, hl => by
    rw [joinB_cons]
    have hc : cutA 32 (w ++ sSp ++ joinB (v :: ws)) = (w, joinB (v :: ws), true) := cutC_at (c := 32) (h w (.head _))
    have ih := splitF_join (v :: ws) k (by simp) (fun x hx => h x (.tail _ hx)) (by simpa using hl)
    simp [splitF, hc, ih]
theorem joinB_min : ∀ ws : List ByteArray, ws.length ≤ (joinB ws).size + 1
  | [] => by simp
  | [w] => by simp
  | w :: v :: ws => by
    have := joinB_min (v :: ws)
    rw [joinB_cons]
    simp only [ByteArray.size_append, List.length_cons] at this ⊢
    have : sSp.size = 1 := rfl
    omega
def dgOk (n : Nat) : Bool := (numF (digB n) == some n) && (dig n).all (fun b => Nat.ble 48 b.toNat && Nat.ble b.toNat 57) && !(dig n).isEmpty
theorem dg_all : (List.range 256).all dgOk = true := by kernel_rfl
theorem dg_at {n : Int} (h : 0 ≤ n ∧ n < 256) : dgOk n.toNat = true := List.all_eq_true.1 dg_all _ (List.mem_range.2 (by omega))
theorem numF_dig {n : Int} (h : 0 ≤ n ∧ n < 256) : numF (digB n) = some n.toNat := by
  have := dg_at h
  simp only [dgOk, Bool.and_eq_true, beq_iff_eq] at this
  have h2 := this.1.1
  rwa [Int.toNat_of_nonneg h.1] at h2
theorem numF_dig' {n : Int} (h : 0 ≤ n ∧ n < 256) : (((numF (digB n)).getD 0 : Nat) : Int) = n := by
  rw [numF_dig h]
  simp
  omega
theorem dig_mem {n : Int} (h : 0 ≤ n ∧ n < 256) {b : UInt8} (hb : b ∈ (digB n).data.toList) : 48 ≤ b.toNat ∧ b.toNat ≤ 57 := by
  have := dg_at h
  simp only [dgOk, Bool.and_eq_true] at this
  have h2 := List.all_eq_true.1 this.1.2 b hb
  simp only [Bool.and_eq_true] at h2
  exact ⟨Nat.le_of_ble_eq_true h2.1, Nat.le_of_ble_eq_true h2.2⟩
theorem dig_no {n : Int} (h : 0 ≤ n ∧ n < 256) (c : UInt8) (hc : c.toNat < 48 ∨ 57 < c.toNat) : c ∉ (digB n).data.toList := fun hb => by
  have := dig_mem h hb
  omega
theorem dig_pos {n : Int} (h : 0 ≤ n ∧ n < 256) : 0 < (digB n).size := by
  have := dg_at h
  simp only [dgOk, Bool.and_eq_true, Bool.not_eq_true'] at this
  have h2 := this.2
  show 0 < (dig n.toNat).length
  cases hd : dig n.toNat with
  | nil => rw [hd] at h2; cases h2
  | cons a l => simp
end Go.Proofs.YtijpomemobgddaaGreatDoor.Ev
namespace Go.Proofs.YtijpomemobgddaaGreatDoor.Ev
open Go Go.RowKit
set_option maxRecDepth 100000
theorem kindN {k : Int} (hk : 1 ≤ k ∧ k ≤ 12) : EvQ Cx 101 [Sv (nameF k)] (I8 k) := by
  have h13 : k = 1 ∨ k = 2 ∨ k = 3 ∨ k = 4 ∨ k = 5 ∨ k = 6 ∨ k = 7 ∨ k = 8 ∨ k = 9 ∨ k = 10 ∨ k = 11 ∨ k = 12 := by omega
  rcases h13 with rfl | rfl | rfl | rfl | rfl | rfl | rfl | rfl | rfl | rfl | rfl | rfl <;> exact evQ_fast 300 (by kernel_rfl)
theorem cls_kind {k : Int} (h : ¬ clsF k = 0) : 1 ≤ k ∧ k ≤ 12 := by
  unfold clsF at h
  split at h
  · exact absurd rfl h
  · repeat' (split at h)
    all_goals (first | omega | exact absurd rfl h)
theorem hdW_cons (x : ByteArray) (l : List ByteArray) : hdW (x :: l) = x := rfl
theorem skB_yes (w : ByteArray) (ws : List ByteArray) : skB w (w :: ws) = true := by simp [skB, hdW]
def optA (a : Int) : List ByteArray := if a = 0 then [] else [sAsker, digB a]
def optC (c : Int) : List ByteArray := if c = 0 then [] else [sAcks, digB c]
def optB (b : Bool) : List ByteArray := if b then [sAlone] else []
def optD (d0 d1 d2 d3 : Int) : List ByteArray := if (d0 == 0 && (d1 == 0 && (d2 == 0 && d3 == 0))) = true then [] else [sData, digB d0, digB d1, digB d2, digB d3]
def hdK (k : Int) : List ByteArray := if clsF k = 0 then [sKind, digB k] else [nameF k]
theorem words_eq (k f t l a c : Int) (b : Bool) (d0 d1 d2 d3 : Int) : wordsM k f t l a c b d0 d1 d2 d3 = hdK k ++ (digB f ++ sGt ++ digB t) :: sLine :: digB l :: (optA a ++ (optC c ++ (optB b ++ optD d0 d1 d2 d3))) := by
  simp [wordsM, hdK, optA, optC, optB, optD]
def wdOk (w : ByteArray) : Prop := w.size ≤ 10 ∧ (32 : UInt8) ∉ w.data.toList
theorem wd_dig {n : Int} (h : 0 ≤ n ∧ n < 256) : wdOk (digB n) := ⟨by have := digB_size (n := n) (by omega); omega, dig_no h 32 (by decide)⟩
theorem wd_name {k : Int} (h : 1 ≤ k ∧ k ≤ 12) : wdOk (nameF k) := by
  have h13 : k = 1 ∨ k = 2 ∨ k = 3 ∨ k = 4 ∨ k = 5 ∨ k = 6 ∨ k = 7 ∨ k = 8 ∨ k = 9 ∨ k = 10 ∨ k = 11 ∨ k = 12 := by omega
  rcases h13 with rfl | rfl | rfl | rfl | rfl | rfl | rfl | rfl | rfl | rfl | rfl | rfl <;> exact ⟨by decide, by decide⟩
theorem wd_lit : wdOk sKind ∧ wdOk sLine ∧ wdOk sAsker ∧ wdOk sAcks ∧ wdOk sAlone ∧ wdOk sData := ⟨⟨by decide, by decide⟩, ⟨by decide, by decide⟩, ⟨by decide, by decide⟩, ⟨by decide, by decide⟩, ⟨by decide, by decide⟩, ⟨by decide, by decide⟩⟩
theorem wd_ft {f t : Int} (hf : 0 ≤ f ∧ f < 256) (ht : 0 ≤ t ∧ t < 256) : wdOk (digB f ++ sGt ++ digB t) := by
  have zf := digB_size (n := f) (by omega)
  have zt := digB_size (n := t) (by omega)
  refine ⟨by simp only [ByteArray.size_append]; have : sGt.size = 1 := rfl; omega, ?_⟩
  have e : (digB f ++ sGt ++ digB t).data.toList = (digB f).data.toList ++ 62 :: (digB t).data.toList := by simp [sGt]
  rw [e]
  intro h
  rcases List.mem_append.1 h with h | h
  · exact dig_no hf 32 (by decide) h
  · rcases List.mem_cons.1 h with h | h
    · exact absurd h (by decide)
    · exact dig_no ht 32 (by decide) h
def AllW (ws : List ByteArray) : Prop := ∀ w ∈ ws, wdOk w
theorem allW_nil : AllW [] := fun w h => by cases h
theorem allW_cons {w : ByteArray} {ws : List ByteArray} (h : wdOk w) (h' : AllW ws) : AllW (w :: ws) := fun x hx => by
  rcases List.mem_cons.1 hx with rfl | hx
  · exact h
  · exact h' x hx
theorem allW_app {ws vs : List ByteArray} (h : AllW ws) (h' : AllW vs) : AllW (ws ++ vs) := fun x hx => by
  rcases List.mem_append.1 hx with hx | hx
  · exact h x hx
  · exact h' x hx
theorem AllW.sz {ws : List ByteArray} (h : AllW ws) : Sz ws := fun x hx => Nat.le_trans (h x hx).1 (by omega)
theorem allW_A {a : Int} (h : 0 ≤ a ∧ a < 256) : AllW (optA a) := by
  unfold optA
  split
  · exact allW_nil
  · exact allW_cons wd_lit.2.2.1 (allW_cons (wd_dig h) allW_nil)
theorem allW_C {a : Int} (h : 0 ≤ a ∧ a < 256) : AllW (optC a) := by
  unfold optC
  split
  · exact allW_nil
  · exact allW_cons wd_lit.2.2.2.1 (allW_cons (wd_dig h) allW_nil)
theorem allW_B {b : Bool} : AllW (optB b) := by
  unfold optB
  split
  · exact allW_cons wd_lit.2.2.2.2.1 allW_nil
  · exact allW_nil
theorem allW_D {d0 d1 d2 d3 : Int} (h0 : 0 ≤ d0 ∧ d0 < 256) (h1 : 0 ≤ d1 ∧ d1 < 256) (h2 : 0 ≤ d2 ∧ d2 < 256) (h3 : 0 ≤ d3 ∧ d3 < 256) : AllW (optD d0 d1 d2 d3) := by
  unfold optD
  split
  · exact allW_nil
  · exact allW_cons wd_lit.2.2.2.2.2 (allW_cons (wd_dig h0) (allW_cons (wd_dig h1) (allW_cons (wd_dig h2) (allW_cons (wd_dig h3) allW_nil))))
theorem allW_K {k : Int} (h : 0 ≤ k ∧ k < 256) : AllW (hdK k) := by
  unfold hdK
  split
  · exact allW_cons wd_lit.1 (allW_cons (wd_dig h) allW_nil)
  · rename_i hc
    exact allW_cons (wd_name (cls_kind hc)) allW_nil
theorem cut_ft {f t : Int} (hf : 0 ≤ f ∧ f < 256) : cutA 62 (digB f ++ sGt ++ digB t) = (digB f, digB t, true) := cutC_at (c := 62) (dig_no hf 62 (by decide))
theorem isS {n : Int} (h : 0 ≤ n ∧ n < 256) : (numF (digB n)).isSome = true := by rw [numF_dig h]; rfl
theorem skB_no {w : ByteArray} {ws : List ByteArray} (h : ∀ x ∈ ws.head?, ¬ x = w) : skB w ws = false := by
  cases ws with
  | nil => rfl
  | cons x l =>
    have := h x rfl
    have hb : (x.toList == w.toList) = false := bs_ne (fun e => this e.symm)
    simp [skB, hdW, hb]
theorem join3 {f : FuncId} {zs : List A} {dst : Option Nat} {ms : List MOp} {E : Env} {k : List It} {Q : Ex → Ev.St → Prop} {b : Bool} {W M : _} {W1 W2 : List ByteArray} {M1 M2 : List A} {o1 o2 : Bool}
    (h : PassK Cx f zs dst ms ⟨E, scH W M true⟩ k Q) (h1 : b = false → W1 = W ∧ M1 = M ∧ o1 = true) (h2 : b = true → W2 = W ∧ M2 = M ∧ o2 = true) :
    (b = false → PassK Cx f zs dst ms ⟨E, scH W1 M1 o1⟩ k Q) ∧ (b = true → PassK Cx f zs dst ms ⟨E, scH W2 M2 o2⟩ k Q) :=
  ⟨fun hb => by obtain ⟨rfl, rfl, rfl⟩ := h1 hb; exact h, fun hb => by obtain ⟨rfl, rfl, rfl⟩ := h2 hb; exact h⟩
theorem dig_sz {n : Int} (h : 0 ≤ n ∧ n < 256) : (digB n).size ≤ 281474976710656 := by
  have := digB_size (n := n) (by omega)
  omega
theorem i8_inj {x y : Int} (h : I8 x = I8 y) : y = x := by
  injection h with h
  injection h with _ h
  exact h.symm
theorem noA {c : Int} {b : Bool} {d0 d1 d2 d3 : Int} : skB sAsker (optC c ++ (optB b ++ optD d0 d1 d2 d3)) = false := by
  unfold optC optB optD
  repeat' split
  all_goals first | rfl | exact skB_no (by intro x hx; cases hx; decide)
theorem noC {b : Bool} {d0 d1 d2 d3 : Int} : skB sAcks (optB b ++ optD d0 d1 d2 d3) = false := by
  unfold optB optD
  repeat' split
  all_goals first | rfl | exact skB_no (by intro x hx; cases hx; decide)
theorem noB {d0 d1 d2 d3 : Int} : skB sAlone (optD d0 d1 d2 d3) = false := by
  unfold optD
  repeat' split
  all_goals first | rfl | exact skB_no (by intro x hx; cases hx; decide)
theorem scan_c {k f t l a c d0 d1 d2 d3 : Int} {b : Bool} (hk : 0 ≤ k ∧ k < 256) (hf : 0 ≤ f ∧ f < 256) (ht : 0 ≤ t ∧ t < 256) (hl : 0 ≤ l ∧ l < 256) (ha : 0 ≤ a ∧ a < 256) (hc : 0 ≤ c ∧ c < 256) (h0 : 0 ≤ d0 ∧ d0 < 256) (h1 : 0 ≤ d1 ∧ d1 < 256) (h2 : 0 ≤ d2 ∧ d2 < 256) (h3 : 0 ≤ d3 ∧ d3 < 256) :
    EvQ Cx 63 [.sl (wordsM k f t l a c b d0 d1 d2 d3).length ((wordsM k f t l a c b d0 d1 d2 d3).map Sv)] (.tup [.agg (msgA k f t l a c b d0 d1 d2 d3), Bo true]) := by
  refine evQ_of CxB63 rfl (by simp [fn63]) ?_
  rw [words_eq]
  have hD := allW_D h0 h1 h2 h3
  have hB : AllW (optB b ++ optD d0 d1 d2 d3) := allW_app allW_B hD
  have hC : AllW (optC c ++ (optB b ++ optD d0 d1 d2 d3)) := allW_app (allW_C hc) hB
  have hA : AllW (optA a ++ (optC c ++ (optB b ++ optD d0 d1 d2 d3))) := allW_app (allW_A ha) hC
  have hL : AllW (sLine :: digB l :: (optA a ++ (optC c ++ (optB b ++ optD d0 d1 d2 d3)))) := allW_cons wd_lit.2.1 (allW_cons (wd_dig hl) hA)
  have hW : AllW (hdK k ++ (digB f ++ sGt ++ digB t) :: sLine :: digB l :: (optA a ++ (optC c ++ (optB b ++ optD d0 d1 d2 d3)))) := allW_app (allW_K hk) (allW_cons (wd_ft hf ht) hL)
  generalize hWe : hdK k ++ (digB f ++ sGt ++ digB t) :: sLine :: digB l :: (optA a ++ (optC c ++ (optB b ++ optD d0 d1 d2 d3))) = W at hW
  have hs := hW.sz
  obtain ⟨kk, hkk, ek⟩ := kind_ev (hdW W)
  simp (config := { maxSteps := 10000000 }) (disch := omega) only [go_sem, simprocAttr]
  simp only [sc_fold, skip_k]
  generalize hb1 : skB _ _ = b1
  have hcl : decide (clsF k = 0) = b1 := by
    rw [← hb1, ← hWe]
    symm
    by_cases h : clsF k = 0
    · simp only [hdK, h, if_true, decide_true]
      exact skB_yes sKind _
    · simp only [hdK, h, if_false, decide_false]
      refine skB_no ?_
      intro x hx
      cases hx
      have h13 := cls_kind h
      have h13 : k = 1 ∨ k = 2 ∨ k = 3 ∨ k = 4 ∨ k = 5 ∨ k = 6 ∨ k = 7 ∨ k = 8 ∨ k = 9 ∨ k = 10 ∨ k = 11 ∨ k = 12 := by omega
      rcases h13 with rfl | rfl | rfl | rfl | rfl | rfl | rfl | rfl | rfl | rfl | rfl | rfl <;> decide
  clear hb1
  revert b1
  rw [Bool.forall_bool]
  simp (config := { maxSteps := 10000000 }) (disch := omega) only [go_sem, simprocAttr, next_k, num_k hs.hn, num_k hs.tl.hn, num_k hs.tl.tl.hn, num_k hs.tl.tl.tl.hn, num_k hs.tl.tl.tl.tl.hn, num_k hs.tl.tl.tl.tl.tl.hn, num_k hs.c1, num_k hs.c2, num_k hs.tl.c1, num_k hs.tl.c2, num_k hs.tl.tl.c1, num_k hs.tl.tl.c2, sc_get0, sc_get1, sc_get2, sc_get3, sc_set1, sc_set2, passK_shut CxP101, passK_shut CxP35, cut62_k hs.hd, cut62_k hs.tl.hd, cut62_k hs.tl.tl.hd, QK.use ek]
  refine join3 (W := sLine :: digB l :: (optA a ++ (optC c ++ (optB b ++ optD d0 d1 d2 d3)))) (M := msgA k f t 0 0 0 false 0 0 0 0) ?_ (fun hcl => ?_) (fun hcl => ?_)
  rotate_left
  · have hcl := of_decide_eq_false hcl
    have hh : hdW W = nameF k := by rw [← hWe]; simp only [hdK, hcl, if_false]; rfl
    rw [hh] at ek
    obtain rfl : kk = k := (i8_inj ((kindN (cls_kind hcl)).one ek)).symm
    subst hWe
    simp only [hdK, hcl, if_false, List.cons_append, List.nil_append, List.tail_cons, hdW_cons, cut_ft hf, numF_dig' hk, numF_dig' hf, numF_dig' ht, numF_dig' hl, numF_dig' ha, numF_dig' hc, isS hk, isS hf, isS ht, isS hl, isS ha, isS hc, List.isEmpty_cons, Bool.not_false, Bool.and_self, Bool.true_and, Bool.and_true, msgA, and_self]
  · have hcl := of_decide_eq_true hcl
    subst hWe
    simp only [hdK, hcl, if_true, List.cons_append, List.nil_append, List.tail_cons, hdW_cons, cut_ft hf, numF_dig' hk, numF_dig' hf, numF_dig' ht, numF_dig' hl, numF_dig' ha, numF_dig' hc, isS hk, isS hf, isS ht, isS hl, isS ha, isS hc, List.isEmpty_cons, Bool.not_false, Bool.and_self, Bool.true_and, Bool.and_true, msgA, and_self]
  clear ek hkk hWe hs hW kk W
  have hs := hL.sz
  simp only [skip_k]
  generalize hb1 : skB _ _ = b1
  obtain rfl : b1 = true := hb1.symm.trans (skB_yes sLine _)
  clear hb1
  simp only [if_true, List.tail_cons]
  have hs := hs.tl
  have el := numF_dig' hl
  have il := isS hl
  have zl := dig_sz hl
  simp (config := { maxSteps := 10000000 }) (disch := omega) only [go_sem, simprocAttr, msgA, next_k, num_k hs.hn, num_k hs.tl.hn, num_k hs.tl.tl.hn, num_k hs.tl.tl.tl.hn, num_k hs.tl.tl.tl.tl.hn, num_k hs.tl.tl.tl.tl.tl.hn, num_k hs.c1, num_k hs.c2, num_k hs.tl.c1, num_k hs.tl.c2, num_k hs.tl.tl.c1, num_k hs.tl.tl.c2, sc_get0, sc_get1, sc_get2, sc_get3, sc_set1, sc_set2, passK_shut CxP101, passK_shut CxP35, cut62_k hs.hd, cut62_k hs.tl.hd, cut62_k hs.tl.tl.hd, num_k zl, List.tail_cons, hdW_cons, el, il]
  clear hL hs
  generalize hV : optA a ++ (optC c ++ (optB b ++ optD d0 d1 d2 d3)) = V at hA ⊢
  have hs := hA.sz
  simp only [skip_k]
  generalize hb1 : skB _ _ = b1
  have hcl : decide (¬ a = 0) = b1 := by
    rw [← hb1, ← hV]
    symm
    by_cases h : a = 0
    · simp only [optA, h, if_true, List.nil_append, not_true, decide_false]
      exact noA
    · simp only [optA, h, if_false, not_false_iff, decide_true]
      exact skB_yes sAsker _
  clear hb1
  revert b1
  rw [Bool.forall_bool]
  simp (config := { maxSteps := 10000000 }) (disch := omega) only [go_sem, simprocAttr, msgA, next_k, num_k hs.hn, num_k hs.tl.hn, num_k hs.tl.tl.hn, num_k hs.tl.tl.tl.hn, num_k hs.tl.tl.tl.tl.hn, num_k hs.tl.tl.tl.tl.tl.hn, num_k hs.c1, num_k hs.c2, num_k hs.tl.c1, num_k hs.tl.c2, num_k hs.tl.tl.c1, num_k hs.tl.tl.c2, sc_get0, sc_get1, sc_get2, sc_get3, sc_set1, sc_set2, passK_shut CxP101, passK_shut CxP35, cut62_k hs.hd, cut62_k hs.tl.hd, cut62_k hs.tl.tl.hd]
  refine join3 (W := optC c ++ (optB b ++ optD d0 d1 d2 d3)) (M := msgA k f t l a 0 false 0 0 0 0) ?_ (fun hcl => ?_) (fun hcl => ?_)
  rotate_left
  · have hcl := Decidable.not_not.1 (of_decide_eq_false hcl)
    subst hV
    simp only [optA, hcl, if_true, List.nil_append, msgA, and_self]
  · have hcl := of_decide_eq_true hcl
    subst hV
    simp only [optA, hcl, if_false, List.cons_append, List.nil_append, List.tail_cons, hdW_cons, cut_ft hf, numF_dig' hk, numF_dig' hf, numF_dig' ht, numF_dig' hl, numF_dig' ha, numF_dig' hc, isS hk, isS hf, isS ht, isS hl, isS ha, isS hc, List.isEmpty_cons, Bool.not_false, Bool.and_self, Bool.true_and, Bool.and_true, msgA, and_self]
  clear hV hA hs V
  generalize hV : optC c ++ (optB b ++ optD d0 d1 d2 d3) = V at hC ⊢
  have hs := hC.sz
  simp only [skip_k]
  generalize hb1 : skB _ _ = b1
  have hcl : decide (¬ c = 0) = b1 := by
    rw [← hb1, ← hV]
    symm
    by_cases h : c = 0
    · simp only [optC, h, if_true, List.nil_append, not_true, decide_false]
      exact noC
    · simp only [optC, h, if_false, not_false_iff, decide_true]
      exact skB_yes sAcks _
  clear hb1
  revert b1
  rw [Bool.forall_bool]
  simp (config := { maxSteps := 10000000 }) (disch := omega) only [go_sem, simprocAttr, msgA, next_k, num_k hs.hn, num_k hs.tl.hn, num_k hs.tl.tl.hn, num_k hs.tl.tl.tl.hn, num_k hs.tl.tl.tl.tl.hn, num_k hs.tl.tl.tl.tl.tl.hn, num_k hs.c1, num_k hs.c2, num_k hs.tl.c1, num_k hs.tl.c2, num_k hs.tl.tl.c1, num_k hs.tl.tl.c2, sc_get0, sc_get1, sc_get2, sc_get3, sc_set1, sc_set2, passK_shut CxP101, passK_shut CxP35, cut62_k hs.hd, cut62_k hs.tl.hd, cut62_k hs.tl.tl.hd]
  refine join3 (W := optB b ++ optD d0 d1 d2 d3) (M := msgA k f t l a c false 0 0 0 0) ?_ (fun hcl => ?_) (fun hcl => ?_)
  rotate_left
  · have hcl := Decidable.not_not.1 (of_decide_eq_false hcl)
    subst hV
    simp only [optC, hcl, if_true, List.nil_append, msgA, and_self]
  · have hcl := of_decide_eq_true hcl
    subst hV
    simp only [optC, hcl, if_false, List.cons_append, List.nil_append, List.tail_cons, hdW_cons, cut_ft hf, numF_dig' hk, numF_dig' hf, numF_dig' ht, numF_dig' hl, numF_dig' ha, numF_dig' hc, isS hk, isS hf, isS ht, isS hl, isS ha, isS hc, List.isEmpty_cons, Bool.not_false, Bool.and_self, Bool.true_and, Bool.and_true, msgA, and_self]
  clear hV hC hs V
  simp only [skip_k]
  generalize hb1 : skB _ _ = b1
  have hbb : b = b1 := by
    rw [← hb1]
    symm
    cases b
    · exact noB
    · exact skB_yes sAlone _
  subst hbb
  clear hb1 hB
  have hV : (if b = true then (optB b ++ optD d0 d1 d2 d3).tail else optB b ++ optD d0 d1 d2 d3) = optD d0 d1 d2 d3 := by cases b <;> rfl
  rw [hV]
  simp (config := { maxSteps := 10000000 }) (disch := omega) only [go_sem, simprocAttr, msgA, next_k, sc_get0, sc_get1, sc_get2, sc_get3, sc_set1, sc_set2]
  simp only [skip_k]
  generalize hb1 : skB _ _ = b1
  cases hd : (d0 == 0 && (d1 == 0 && (d2 == 0 && d3 == 0))) with
  | true =>
    have hx : optD d0 d1 d2 d3 = [] := by unfold optD; rw [if_pos hd]
    rw [hx] at hb1 ⊢
    obtain rfl : b1 = false := hb1.symm
    simp only [Bool.and_eq_true, beq_iff_eq] at hd
    obtain ⟨rfl, rfl, rfl, rfl⟩ := hd
    simp (config := { maxSteps := 10000000 }) (disch := omega) only [go_sem, simprocAttr, msgA, next_k, sc_get0, sc_get1, sc_get2, sc_get3, sc_set1, sc_set2, Bool.false_eq_true, if_false]
  | false =>
    have hx : optD d0 d1 d2 d3 = [sData, digB d0, digB d1, digB d2, digB d3] := by unfold optD; rw [if_neg (by rw [hd]; simp)]
    rw [hx] at hb1 ⊢
    obtain rfl : b1 = true := hb1.symm.trans (skB_yes sData _)
    have z0 := dig_sz h0
    have z1 := dig_sz h1
    have z2 := dig_sz h2
    have z3 := dig_sz h3
    have e0 := numF_dig' h0
    have e1 := numF_dig' h1
    have e2 := numF_dig' h2
    have e3 := numF_dig' h3
    have i0 := isS h0
    have i1 := isS h1
    have i2 := isS h2
    have i3 := isS h3
    simp only [if_true, List.tail_cons]
    simp (config := { maxSteps := 10000000 }) (disch := omega) only [go_sem, simprocAttr, msgA, next_k, sc_get0, sc_get1, sc_get2, sc_get3, sc_set1, sc_set2]
    iterate 5 (simp only [runK_loop]; simp (config := { maxSteps := 10000000 }) (disch := omega) only [go_sem, simprocAttr, next_k, sc_get0, sc_get1, sc_get2, sc_get3, sc_set1, sc_set2, List.tail_cons, hdW_cons, num_k z0, num_k z1, num_k z2, num_k z3, e0, e1, e2, e3, i0, i1, i2, i3])
end Go.Proofs.YtijpomemobgddaaGreatDoor.Ev
namespace Go.Proofs.YtijpomemobgddaaGreatDoor.Ev
open Go Go.RowKit
set_option maxRecDepth 100000
theorem allW_words {k f t l a c d0 d1 d2 d3 : Int} {b : Bool} (hk : 0 ≤ k ∧ k < 256) (hf : 0 ≤ f ∧ f < 256) (ht : 0 ≤ t ∧ t < 256) (hl : 0 ≤ l ∧ l < 256) (ha : 0 ≤ a ∧ a < 256) (hc : 0 ≤ c ∧ c < 256) (h0 : 0 ≤ d0 ∧ d0 < 256) (h1 : 0 ≤ d1 ∧ d1 < 256) (h2 : 0 ≤ d2 ∧ d2 < 256) (h3 : 0 ≤ d3 ∧ d3 < 256) :
    AllW (wordsM k f t l a c b d0 d1 d2 d3) := by
  rw [words_eq]
  exact allW_app (allW_K hk) (allW_cons (wd_ft hf ht) (allW_cons wd_lit.2.1 (allW_cons (wd_dig hl) (allW_app (allW_A ha) (allW_app (allW_C hc) (allW_app allW_B (allW_D h0 h1 h2 h3)))))))
theorem words_len (k f t l a c : Int) (b : Bool) (d0 d1 d2 d3 : Int) : 0 < (wordsM k f t l a c b d0 d1 d2 d3).length ∧ (wordsM k f t l a c b d0 d1 d2 d3).length ≤ 15 := by
  rw [words_eq]
  have q0 : (hdK k).length ≤ 2 := by unfold hdK; split <;> simp
  have q1 : (optA a).length ≤ 2 := by unfold optA; split <;> simp
  have q2 : (optC c).length ≤ 2 := by unfold optC; split <;> simp
  have q3 : (optB b).length ≤ 1 := by unfold optB; split <;> simp
  have q4 : (optD d0 d1 d2 d3).length ≤ 5 := by unfold optD; split <;> simp
  simp only [List.length_append, List.length_cons]
  omega
theorem parse_c {k f t l a c d0 d1 d2 d3 : Int} {b : Bool} (hk : 0 ≤ k ∧ k < 256) (hf : 0 ≤ f ∧ f < 256) (ht : 0 ≤ t ∧ t < 256) (hl : 0 ≤ l ∧ l < 256) (ha : 0 ≤ a ∧ a < 256) (hc : 0 ≤ c ∧ c < 256) (h0 : 0 ≤ d0 ∧ d0 < 256) (h1 : 0 ≤ d1 ∧ d1 < 256) (h2 : 0 ≤ d2 ∧ d2 < 256) (h3 : 0 ≤ d3 ∧ d3 < 256) :
    EvQ Cx 37 [Sv (joinB (wordsM k f t l a c b d0 d1 d2 d3))] (.tup [.agg (msgA k f t l a c b d0 d1 d2 d3), I64 0]) := by
  have hz := joinW_size (b := b) hk hf ht hl ha hc h0 h1 h2 h3
  have hw := allW_words (b := b) hk hf ht hl ha hc h0 h1 h2 h3
  have hn := words_len k f t l a c b d0 d1 d2 d3
  have hq : EvQ Cx 64 [Sv (joinB (wordsM k f t l a c b d0 d1 d2 d3)), Sv ⟨⟨[32]⟩⟩, I64 16] _ := splitN_ev (by omega)
  have hm := joinB_min (wordsM k f t l a c b d0 d1 d2 d3)
  have hsp := splitF_join (wordsM k f t l a c b d0 d1 d2 d3) (min 15 (joinB (wordsM k f t l a c b d0 d1 d2 d3)).size) (by intro h; rw [h] at hn; simp at hn) (fun w h => (hw w h).2) (by omega)
  rw [hsp] at hq
  have hsc := scan_c (b := b) hk hf ht hl ha hc h0 h1 h2 h3
  have hx : EvQ Cx 44 [.agg [I8 k, I8 f, I8 t, I8 l, I8 a, I8 c, Bo b, I8 d0, I8 d1, I8 d2, I8 d3]] _ := text_ev (b := b) hk hf ht hl ha hc h0 h1 h2 h3
  unfold msgA at hsc
  refine evQ_of CxB37 rfl (by simp [fn37]) ?_
  generalize joinB (wordsM k f t l a c b d0 d1 d2 d3) = s at *
  have hb : (s.toList == s.toList) = true := beq_self_eq_true _
  simp (config := { maxSteps := 10000000 }) (disch := omega) only [go_sem, simprocAttr, passK_shut CxP64, QK.use hq, passK_shut CxP63, QK.use hsc, passK_shut CxP44, QK.use hx, hb]
  rfl
def txS (k n l : Int) : ByteArray := if k = 1 then sCore ++ sSp ++ digB n else if k = 2 then sDrain ++ sSp ++ digB n else if k = 3 then sTry ++ sSp ++ digB n else sEvict ++ sSp ++ digB n ++ sSp ++ digB l
theorem cut_core {n : Int} : cutA 32 (sCore ++ sSp ++ digB n) = (sCore, digB n, true) := cutC_at (c := 32) (by decide)
theorem cut_drain {n : Int} : cutA 32 (sDrain ++ sSp ++ digB n) = (sDrain, digB n, true) := cutC_at (c := 32) (by decide)
theorem cut_try {n : Int} : cutA 32 (sTry ++ sSp ++ digB n) = (sTry, digB n, true) := cutC_at (c := 32) (by decide)
theorem cut_evict {n l : Int} : cutA 32 (sEvict ++ sSp ++ digB n ++ sSp ++ digB l) = (sEvict, digB n ++ sSp ++ digB l, true) := by
  have e : sEvict ++ sSp ++ digB n ++ sSp ++ digB l = sEvict ++ sSp ++ (digB n ++ sSp ++ digB l) := by simp only [ByteArray.append_assoc]
  rw [e]
  exact cutC_at (c := 32) (by decide)
theorem cut_msg {s : ByteArray} : cutA 32 (sMsg ++ sSp ++ s) = (sMsg, s, true) := cutC_at (c := 32) (by decide)
theorem cut_dig {n : Int} (h : 0 ≤ n ∧ n < 256) : cutA 32 (digB n) = (digB n, .empty, false) := cutC_no (c := 32) (dig_no h 32 (by decide))
theorem cut_dig2 {n l : Int} (h : 0 ≤ n ∧ n < 256) : cutA 32 (digB n ++ sSp ++ digB l) = (digB n, digB l, true) := cutC_at (c := 32) (dig_no h 32 (by decide))
theorem num_e : (((numF .empty).getD 0 : Nat) : Int) = 0 := by kernel_rfl
theorem tx_size {k n l : Int} (hn : 0 ≤ n ∧ n < 256) (hl : 0 ≤ l ∧ l < 256) : (txS k n l).size ≤ 20 := by
  have h1 := digB_size (n := n) (by omega)
  have h2 := digB_size (n := l) (by omega)
  have y1 : sCore.size = 4 ∧ sDrain.size = 5 ∧ sTry.size = 3 ∧ sEvict.size = 5 ∧ sSp.size = 1 := by decide
  unfold txS
  repeat' split
  all_goals
    simp only [ByteArray.size_append]
    omega
theorem read_c123 {k n : Int} (hk : k = 1 ∨ k = 2 ∨ k = 3) (hn : 0 ≤ n ∧ n < 256) : EvQ Cx 18 [Sv (txS k n 0)] (.tup [stA k n 0 mz, Bo true]) := by
  obtain ⟨key, kk1, kk2, kk3, kk4, kk5, hcut, hf⟩ : ∃ key : ByteArray, (sCore.toList == key.toList) = decide (k = 1) ∧ (sDrain.toList == key.toList) = decide (k = 2) ∧ (sTry.toList == key.toList) = decide (k = 3) ∧ (sEvict.toList == key.toList) = decide (k = 4) ∧ (sMsg.toList == key.toList) = decide (k = 5) ∧ cutA 32 (txS k n 0) = (key, digB n, true) ∧ EvQ Cx 19 [stA k n 0 mz] (.tup [Sv (txS k n 0), Bo true]) := by
    rcases hk with rfl | rfl | rfl
    · exact ⟨sCore, by simp, bs_ne (by decide), bs_ne (by decide), bs_ne (by decide), bs_ne (by decide), cut_core, fmt1 hn⟩
    · exact ⟨sDrain, bs_ne (by decide), by simp, bs_ne (by decide), bs_ne (by decide), bs_ne (by decide), cut_drain, fmt2 hn⟩
    · exact ⟨sTry, bs_ne (by decide), bs_ne (by decide), by simp, bs_ne (by decide), bs_ne (by decide), cut_try, fmt3 hn⟩
  have hs := tx_size (k := k) (l := 0) hn (by omega)
  generalize txS k n 0 = s at *
  have hq : EvQ Cx 35 [Sv s, Sv ⟨⟨[32]⟩⟩] _ := cut_ev s (by omega) 32
  have hz := digB_size (n := n) (by omega)
  have hc : EvQ Cx 35 [Sv (digB n), Sv ⟨⟨[32]⟩⟩] _ := cut_ev (digB n) (by omega) 32
  change EvQ Cx 35 [Sv s, Sv ⟨⟨[32]⟩⟩] (.tup [Sv (cutA 32 s).1, Sv (cutA 32 s).2.1, Bo (cutA 32 s).2.2]) at hq
  change EvQ Cx 35 [Sv (digB n), Sv ⟨⟨[32]⟩⟩] (.tup [Sv (cutA 32 (digB n)).1, Sv (cutA 32 (digB n)).2.1, Bo (cutA 32 (digB n)).2.2]) at hc
  rw [hcut] at hq
  rw [cut_dig hn] at hc
  have n1 := number_ev (s := digB n) (by omega)
  have n2 := number_ev (s := .empty) (by decide)
  rw [numF_dig' hn] at n1
  rw [num_e] at n2
  have hb : (s.toList == s.toList) = true := beq_self_eq_true _
  refine evQ_of CxB18 rfl (by simp [fn18]) ?_
  unfold stA mz at hf
  rcases hk with rfl | rfl | rfl
  all_goals
    have k1 := kk1
    have k2 := kk2
    have k3 := kk3
    have k4 := kk4
    have k5 := kk5
    simp (config := { maxSteps := 10000000 }) (disch := omega) only [go_sem, simprocAttr, passK_shut CxP35, QK.use hq]
    iterate 6 (simp only [runK_loop]; simp (config := { maxSteps := 10000000 }) (disch := omega) only [go_sem, simprocAttr, passK_shut CxP36, QK.use word1, QK.use word2, QK.use word3, QK.use word4, QK.use word5, k1, k2, k3, k4, k5])
    simp (config := { maxSteps := 10000000 }) (disch := omega) only [go_sem, simprocAttr, passK_shut CxP35, QK.use hc, passK_shut (show isPass Cx 38 = false from rfl), QK.use n1, QK.use n2, passK_shut CxP19, QK.use hf, hb]
    rfl
theorem read_c4 {n l : Int} (hn : 0 ≤ n ∧ n < 256) (hl : 0 ≤ l ∧ l < 256) : EvQ Cx 18 [Sv (txS 4 n l)] (.tup [stA 4 n l mz, Bo true]) := by
  have hcut : cutA 32 (txS 4 n l) = (sEvict, digB n ++ sSp ++ digB l, true) := cut_evict
  have hf : EvQ Cx 19 [stA 4 n l mz] (.tup [Sv (txS 4 n l), Bo true]) := fmt4 hn hl
  have hs := tx_size (k := 4) hn hl
  generalize txS 4 n l = s at *
  have hq : EvQ Cx 35 [Sv s, Sv ⟨⟨[32]⟩⟩] _ := cut_ev s (by omega) 32
  have hz := digB_size (n := n) (by omega)
  have hz' := digB_size (n := l) (by omega)
  have hr : (digB n ++ sSp ++ digB l).size ≤ 10 := by
    simp only [ByteArray.size_append]
    have : sSp.size = 1 := rfl
    omega
  have hc : EvQ Cx 35 [Sv (digB n ++ sSp ++ digB l), Sv ⟨⟨[32]⟩⟩] _ := cut_ev (digB n ++ sSp ++ digB l) (by omega) 32
  change EvQ Cx 35 [Sv s, Sv ⟨⟨[32]⟩⟩] (.tup [Sv (cutA 32 s).1, Sv (cutA 32 s).2.1, Bo (cutA 32 s).2.2]) at hq
  change EvQ Cx 35 [Sv (digB n ++ sSp ++ digB l), Sv ⟨⟨[32]⟩⟩] (.tup [Sv (cutA 32 (digB n ++ sSp ++ digB l)).1, Sv (cutA 32 (digB n ++ sSp ++ digB l)).2.1, Bo (cutA 32 (digB n ++ sSp ++ digB l)).2.2]) at hc
  rw [hcut] at hq
  rw [cut_dig2 hn] at hc
  generalize digB n ++ sSp ++ digB l = rest at *
  have n1 := number_ev (s := digB n) (by omega)
  have n2 := number_ev (s := digB l) (by omega)
  rw [numF_dig' hn] at n1
  rw [numF_dig' hl] at n2
  have hb : (s.toList == s.toList) = true := beq_self_eq_true _
  have k1 : (sCore.toList == sEvict.toList) = false := bs_ne (by decide)
  have k2 : (sDrain.toList == sEvict.toList) = false := bs_ne (by decide)
  have k3 : (sTry.toList == sEvict.toList) = false := bs_ne (by decide)
  have k4 : (sEvict.toList == sEvict.toList) = true := beq_self_eq_true _
  have k5 : (sMsg.toList == sEvict.toList) = false := bs_ne (by decide)
  refine evQ_of CxB18 rfl (by simp [fn18]) ?_
  unfold stA mz at hf
  simp (config := { maxSteps := 10000000 }) (disch := omega) only [go_sem, simprocAttr, passK_shut CxP35, QK.use hq]
  iterate 6 (simp only [runK_loop]; simp (config := { maxSteps := 10000000 }) (disch := omega) only [go_sem, simprocAttr, passK_shut CxP36, QK.use word1, QK.use word2, QK.use word3, QK.use word4, QK.use word5, k1, k2, k3, k4, k5])
  simp (config := { maxSteps := 10000000 }) (disch := omega) only [go_sem, simprocAttr, passK_shut CxP35, QK.use hc, passK_shut (show isPass Cx 38 = false from rfl), QK.use n1, QK.use n2, passK_shut CxP19, QK.use hf, hb]
  rfl
theorem read_c5 {k f t l a c d0 d1 d2 d3 : Int} {b : Bool} (hk : 0 ≤ k ∧ k < 256) (hf : 0 ≤ f ∧ f < 256) (ht : 0 ≤ t ∧ t < 256) (hl : 0 ≤ l ∧ l < 256) (ha : 0 ≤ a ∧ a < 256) (hc : 0 ≤ c ∧ c < 256) (h0 : 0 ≤ d0 ∧ d0 < 256) (h1 : 0 ≤ d1 ∧ d1 < 256) (h2 : 0 ≤ d2 ∧ d2 < 256) (h3 : 0 ≤ d3 ∧ d3 < 256) :
    EvQ Cx 18 [Sv (sMsg ++ sSp ++ joinB (wordsM k f t l a c b d0 d1 d2 d3))] (.tup [stA 5 0 0 (msgA k f t l a c b d0 d1 d2 d3), Bo true]) := by
  have hz := joinW_size (b := b) hk hf ht hl ha hc h0 h1 h2 h3
  have hp := parse_c (b := b) hk hf ht hl ha hc h0 h1 h2 h3
  have hx := text_ev (b := b) hk hf ht hl ha hc h0 h1 h2 h3
  have hfm := fmt5 hz hx
  generalize joinB (wordsM k f t l a c b d0 d1 d2 d3) = rest at *
  have hcut := cut_msg (s := rest)
  have hs : (sMsg ++ sSp ++ rest).size ≤ 2000 := by
    simp only [ByteArray.size_append]
    have : sMsg.size = 3 ∧ sSp.size = 1 := by decide
    omega
  generalize sMsg ++ sSp ++ rest = s at *
  have hq : EvQ Cx 35 [Sv s, Sv ⟨⟨[32]⟩⟩] _ := cut_ev s (by omega) 32
  change EvQ Cx 35 [Sv s, Sv ⟨⟨[32]⟩⟩] (.tup [Sv (cutA 32 s).1, Sv (cutA 32 s).2.1, Bo (cutA 32 s).2.2]) at hq
  rw [hcut] at hq
  have hb : (s.toList == s.toList) = true := beq_self_eq_true _
  have k1 : (sCore.toList == sMsg.toList) = false := bs_ne (by decide)
  have k2 : (sDrain.toList == sMsg.toList) = false := bs_ne (by decide)
  have k3 : (sTry.toList == sMsg.toList) = false := bs_ne (by decide)
  have k4 : (sEvict.toList == sMsg.toList) = false := bs_ne (by decide)
  have k5 : (sMsg.toList == sMsg.toList) = true := beq_self_eq_true _
  refine evQ_of CxB18 rfl (by simp [fn18]) ?_
  unfold stA msgA at hfm
  unfold msgA at hp
  simp (config := { maxSteps := 10000000 }) (disch := omega) only [go_sem, simprocAttr, passK_shut CxP35, QK.use hq]
  iterate 6 (simp only [runK_loop]; simp (config := { maxSteps := 10000000 }) (disch := omega) only [go_sem, simprocAttr, passK_shut CxP36, QK.use word1, QK.use word2, QK.use word3, QK.use word4, QK.use word5, k1, k2, k3, k4, k5])
  simp (config := { maxSteps := 10000000 }) (disch := omega) only [go_sem, simprocAttr, passK_shut CxP37, QK.use hp, passK_shut CxP19, QK.use hfm, hb]
  rfl
end Go.Proofs.YtijpomemobgddaaGreatDoor.Ev
namespace Go.Proofs.YtijpomemobgddaaGreatDoor.Ev
open Go Go.RowKit
set_option maxRecDepth 100000
def mzB (k f t l a c : Int) (b : Bool) (d0 d1 d2 d3 : Int) : Bool := (k == 0 && (f == 0 && (t == 0 && (l == 0 && (a == 0 && (c == 0 && (!b && (d0 == 0 && (d1 == 0 && (d2 == 0 && d3 == 0))))))))))
def lnS (k n l k' f t l' a c : Int) (b : Bool) (d0 d1 d2 d3 : Int) : Option ByteArray :=
  if k = 1 ∨ k = 2 ∨ k = 3 then (if (l == 0 && mzB k' f t l' a c b d0 d1 d2 d3) = true then some (txS k n 0) else none)
  else if k = 4 then (if mzB k' f t l' a c b d0 d1 d2 d3 = true then some (txS 4 n l) else none)
  else if k = 5 then (if (n == 0 && l == 0) = true then some (sMsg ++ sSp ++ joinB (wordsM k' f t l' a c b d0 d1 d2 d3)) else none)
  else none
def LnR (o : Option ByteArray) (r : A) : Prop := ∃ s b, r = .tup [Sv s, Bo b] ∧ s.size ≤ 3000 ∧ o = (if b = true then some s else none) ∧ (b = true → 0 < s.size)
theorem tx_pos {k n l : Int} (hn : 0 ≤ n ∧ n < 256) : 0 < (txS k n l).size := by
  have h1 := dig_pos hn
  have y1 : sSp.size = 1 := rfl
  unfold txS
  repeat' split
  all_goals
    simp only [ByteArray.size_append]
    omega
theorem fm_all {k n l k' f t l' a c d0 d1 d2 d3 : Int} {b : Bool} (hk : 0 ≤ k ∧ k < 256) (hn : 0 ≤ n ∧ n < 256) (hl : 0 ≤ l ∧ l < 256) (hk' : 0 ≤ k' ∧ k' < 256) (hf : 0 ≤ f ∧ f < 256) (ht : 0 ≤ t ∧ t < 256) (hl' : 0 ≤ l' ∧ l' < 256) (ha : 0 ≤ a ∧ a < 256) (hc : 0 ≤ c ∧ c < 256) (h0 : 0 ≤ d0 ∧ d0 < 256) (h1 : 0 ≤ d1 ∧ d1 < 256) (h2 : 0 ≤ d2 ∧ d2 < 256) (h3 : 0 ≤ d3 ∧ d3 < 256) : ∃ r, EvQ Cx 19 [stA k n l (msgA k' f t l' a c b d0 d1 d2 d3)] r ∧ LnR (lnS k n l k' f t l' a c b d0 d1 d2 d3) r := by
  have hd := dig_ev hn
  have hs := digB_size (n := n) (by omega)
  have hd' := dig_ev hl
  have hs' := digB_size (n := l) (by omega)
  have hk5 : k = 1 ∨ k = 2 ∨ k = 3 ∨ k = 4 ∨ k = 5 ∨ (k = 0 ∨ 6 ≤ k) := by omega
  have hz := joinW_size (b := b) hk' hf ht hl' ha hc h0 h1 h2 h3
  have hx := text_ev (b := b) hk' hf ht hl' ha hc h0 h1 h2 h3
  have z3 := fun k => tx_size (k := k) hn (l := 0) (by omega)
  have z4 := tx_size (k := 4) hn hl
  rcases hk5 with rfl | rfl | rfl | rfl | rfl | hk5
  · have : EvQ Cx 19 [stA 1 n l (msgA k' f t l' a c b d0 d1 d2 d3)] (.tup [Sv (txS 1 n 0), Bo (l == 0 && mzB k' f t l' a c b d0 d1 d2 d3)]) := by
      refine evQ_of CxB19 rfl (by simp [fn19]) ?_
      simp (config := { maxSteps := 10000000 }) (disch := omega) only [go_sem, simprocAttr, stA, msgA, passK_in CxB41 CxP41, passK_shut CxP36, QK.use word1, passK_shut CxP39, QK.use hd]
      rfl
    exact ⟨_, this, _, _, rfl, by have := z3 1; omega, by simp [lnS], fun _ => tx_pos hn⟩
  · have : EvQ Cx 19 [stA 2 n l (msgA k' f t l' a c b d0 d1 d2 d3)] (.tup [Sv (txS 2 n 0), Bo (l == 0 && mzB k' f t l' a c b d0 d1 d2 d3)]) := by
      refine evQ_of CxB19 rfl (by simp [fn19]) ?_
      simp (config := { maxSteps := 10000000 }) (disch := omega) only [go_sem, simprocAttr, stA, msgA, passK_in CxB41 CxP41, passK_shut CxP36, QK.use word2, passK_shut CxP39, QK.use hd]
      rfl
    exact ⟨_, this, _, _, rfl, by have := z3 2; omega, by simp [lnS], fun _ => tx_pos hn⟩
  · have : EvQ Cx 19 [stA 3 n l (msgA k' f t l' a c b d0 d1 d2 d3)] (.tup [Sv (txS 3 n 0), Bo (l == 0 && mzB k' f t l' a c b d0 d1 d2 d3)]) := by
      refine evQ_of CxB19 rfl (by simp [fn19]) ?_
      simp (config := { maxSteps := 10000000 }) (disch := omega) only [go_sem, simprocAttr, stA, msgA, passK_in CxB41 CxP41, passK_shut CxP36, QK.use word3, passK_shut CxP39, QK.use hd]
      rfl
    exact ⟨_, this, _, _, rfl, by have := z3 3; omega, by simp [lnS], fun _ => tx_pos hn⟩
  · have : EvQ Cx 19 [stA 4 n l (msgA k' f t l' a c b d0 d1 d2 d3)] (.tup [Sv (txS 4 n l), Bo (mzB k' f t l' a c b d0 d1 d2 d3)]) := by
      refine evQ_of CxB19 rfl (by simp [fn19]) ?_
      simp (config := { maxSteps := 10000000 }) (disch := omega) only [go_sem, simprocAttr, stA, msgA, passK_in CxB42 CxP42, passK_shut CxP36, QK.use word4, passK_shut CxP39, QK.use hd, QK.use hd']
      rfl
    exact ⟨_, this, _, _, rfl, by omega, by simp [lnS], fun _ => tx_pos hn⟩
  · generalize hS : joinB (wordsM k' f t l' a c b d0 d1 d2 d3) = S at *
    have h4 : EvQ Cx 43 [stA 5 n l (msgA k' f t l' a c b d0 d1 d2 d3)] (.tup [Sv (sMsg ++ sSp ++ S), Bo (n == 0 && l == 0)]) := by
      refine evQ_of CxB43 rfl (by simp [fn43]) ?_
      unfold msgA at hx
      simp (config := { maxSteps := 10000000 }) (disch := omega) only [go_sem, simprocAttr, stA, msgA, passK_shut CxP36, QK.use word5, passK_shut CxP44, QK.use hx]
      rfl
    have : EvQ Cx 19 [stA 5 n l (msgA k' f t l' a c b d0 d1 d2 d3)] (.tup [Sv (sMsg ++ sSp ++ S), Bo (n == 0 && l == 0)]) := by
      refine evQ_of CxB19 rfl (by simp [fn19]) ?_
      unfold stA msgA at h4
      simp (config := { maxSteps := 10000000 }) (disch := omega) only [go_sem, simprocAttr, stA, msgA, passK_shut CxP43, QK.use h4]
    have zm : sMsg.size = 3 ∧ sSp.size = 1 := by decide
    refine ⟨_, this, _, _, rfl, by simp only [ByteArray.size_append]; omega, ?_, fun _ => by simp only [ByteArray.size_append]; omega⟩
    rw [← hS]
    simp [lnS]
  · refine ⟨.tup [Sv ⟨⟨[]⟩⟩, Bo false], ?_, _, _, rfl, by decide, ?_, fun h => by cases h⟩
    · refine evQ_of CxB19 rfl (by simp [fn19]) ?_
      simp (config := { maxSteps := 10000000 }) (disch := omega) only [go_sem, simprocAttr, stA, msgA]
    · unfold lnS
      rw [if_neg (by omega), if_neg (by omega), if_neg (by omega)]
      rfl
noncomputable def rnOk (n : Nat) : Bool := match (callsF Cx 60).1 58 [I8 n], (callsF Cx 60).1 93 [I8 n] with
  | some (.v (.string s)), some (.v (.string s')) => decide (s = digB n) && decide (s' = digB n)
  | _, _ => false
theorem rn_all : (List.range 256).all rnOk = true := by kernel_rfl
theorem rn_ev {n : Int} (h : 0 ≤ n ∧ n < 256) : EvQ Cx 58 [I8 n] (Sv (digB n)) ∧ EvQ Cx 93 [I8 n] (Sv (digB n)) := by
  obtain ⟨m, rfl⟩ := Int.eq_ofNat_of_zero_le h.1
  have hm := List.all_eq_true.1 rn_all m (List.mem_range.2 (by omega))
  unfold rnOk at hm
  split at hm
  · rename_i s s' h1 h2
    simp only [Bool.and_eq_true, decide_eq_true_eq] at hm
    exact ⟨evQ_fast 60 (by rw [h1, hm.1]), evQ_fast 60 (by rw [h2, hm.2])⟩
  · cases hm
end Go.Proofs.YtijpomemobgddaaGreatDoor.Ev
namespace Go.Proofs.YtijpomemobgddaaGreatDoor.Ev
open Go Go.RowKit
set_option maxRecDepth 100000
noncomputable def nms : List A := match (callsF Cx 30).1 94 [] with
  | some (.sl _ l) => l
  | _ => []
theorem names_ev : EvQ Cx 94 [] (.sl 12 nms) := evQ_fast 30 (by kernel_rfl)
theorem nms_eq : nms = [Sv (nameF 1), Sv (nameF 2), Sv (nameF 3), Sv (nameF 4), Sv (nameF 5), Sv (nameF 6), Sv (nameF 7), Sv (nameF 8), Sv (nameF 9), Sv (nameF 10), Sv (nameF 11), Sv (nameF 12)] := by kernel_rfl
theorem dropN {k : Int} (hk : 1 ≤ k ∧ k ≤ 12) : ∃ l, List.drop (k - 1).toNat nms = Sv (nameF k) :: l := by
  rw [nms_eq]
  have h13 : k = 1 ∨ k = 2 ∨ k = 3 ∨ k = 4 ∨ k = 5 ∨ k = 6 ∨ k = 7 ∨ k = 8 ∨ k = 9 ∨ k = 10 ∨ k = 11 ∨ k = 12 := by omega
  rcases h13 with rfl | rfl | rfl | rfl | rfl | rfl | rfl | rfl | rfl | rfl | rfl | rfl <;> exact ⟨_, rfl⟩
theorem joinB_app : ∀ (a b : List ByteArray), a ≠ [] → b ≠ [] → joinB (a ++ b) = joinB a ++ sSp ++ joinB b
  | [], _, h, _ => absurd rfl h
  | [w], b, _, hb => by
    cases b with
    | nil => exact absurd rfl hb
    | cons v b => rw [List.cons_append, List.nil_append, joinB_cons, joinB_one]
  | w :: v :: a, b, _, hb => by
    have ih := joinB_app (v :: a) b (by simp) hb
    rw [List.cons_append] at ih
    rw [List.cons_append, List.cons_append, joinB_cons, ih, joinB_cons]
    simp only [ByteArray.append_assoc]
theorem hdK_ne (k : Int) : hdK k ≠ [] := by
  unfold hdK
  split <;> simp
theorem cls_no {k : Int} (hcl : clsF k = 0) : k ≤ 0 ∨ 13 ≤ k := by
  unfold clsF at hcl
  split at hcl
  · omega
  · split at hcl
    · omega
    · split at hcl
      · omega
      · split at hcl
        · omega
        · split at hcl <;> omega
set_option maxHeartbeats 4000000 in
theorem rtext_ev {k f t l a c d0 d1 d2 d3 : Int} {b : Bool} (hk : 0 ≤ k ∧ k < 256) (hf : 0 ≤ f ∧ f < 256) (ht : 0 ≤ t ∧ t < 256) (hl : 0 ≤ l ∧ l < 256) (ha : 0 ≤ a ∧ a < 256) (hc : 0 ≤ c ∧ c < 256) (h0 : 0 ≤ d0 ∧ d0 < 256) (h1 : 0 ≤ d1 ∧ d1 < 256) (h2 : 0 ≤ d2 ∧ d2 < 256) (h3 : 0 ≤ d3 ∧ d3 < 256) :
    EvQ Cx 59 [.agg (msgA k f t l a c b d0 d1 d2 d3)] (Sv (joinB (wordsM k f t l a c b d0 d1 d2 d3))) := by
  have zf := digB_size (n := f) (by omega)
  have zt := digB_size (n := t) (by omega)
  have zk := digB_size (n := k) (by omega)
  have zl := digB_size (n := l) (by omega)
  have za := digB_size (n := a) (by omega)
  have zc := digB_size (n := c) (by omega)
  have z0 := digB_size (n := d0) (by omega)
  have z1 := digB_size (n := d1) (by omega)
  have z2 := digB_size (n := d2) (by omega)
  have z3 := digB_size (n := d3) (by omega)
  have hkn := (rn_ev hk).2
  refine evQ_of CxB59 rfl (by simp [fn59]) ?_
  refine (fun (tail : ∀ X : ByteArray, X = joinB (hdK k) → X.size ≤ 10 → (?P : ByteArray → Prop) X) => ?main) ?tp
  case main =>
    by_cases hcl : clsF k = 0
    · have hx : joinB (hdK k) = sKind ++ sSp ++ digB k := by
        unfold hdK
        rw [if_pos hcl, joinB_cons, joinB_one]
      have zx : (joinB (hdK k)).size ≤ 10 := by
        rw [hx]
        have zq : sKind.size = 4 ∧ sSp.size = 1 := by decide
        simp only [ByteArray.size_append]
        omega
      rcases cls_no hcl with hk' | hk'
      all_goals
        simp (config := { maxSteps := 10000000 }) (disch := omega) only [go_sem, simprocAttr, msgA, passK_shut CxP93, QK.use hkn, passK_shut CxP94, QK.use names_ev]
        generalize hX : (HAppend.hAppend _ (digB k) : ByteArray) = X
        have hX' : X = joinB (hdK k) := by
          rw [hx, ← hX]
          rfl
        exact tail X hX' (by rw [hX']; exact zx)
    · have hk' := cls_kind hcl
      have zn := nameF_size k hk'
      obtain ⟨nl, hnl⟩ := dropN hk'
      have hx : joinB (hdK k) = nameF k := by
        unfold hdK
        rw [if_neg hcl, joinB_one]
      simp (config := { maxSteps := 10000000 }) (disch := omega) only [go_sem, simprocAttr, msgA, passK_shut CxP93, QK.use hkn, passK_shut CxP94, QK.use names_ev, Nat.mul_one, hnl]
      generalize hX : nameF k = X at zn hx ⊢
      exact tail X hx.symm (by omega)
  case tp =>
    intro X hX zX
    simp (config := { maxSteps := 10000000 }) (disch := omega) only [go_sem, simprocAttr, passK_shut CxP93, QK.use (rn_ev hf).2, QK.use (rn_ev ht).2, QK.use (rn_ev hl).2, QK.use (rn_ev ha).2, QK.use (rn_ev hc).2, QK.use (rn_ev h0).2, QK.use (rn_ev h1).2, QK.use (rn_ev h2).2, QK.use (rn_ev h3).2]
    (by_cases ea : a = 0 <;> simp (config := { maxSteps := 10000000 }) (disch := omega) only [go_sem, simprocAttr, passK_shut CxP93, QK.use (rn_ev hf).2, QK.use (rn_ev ht).2, QK.use (rn_ev hl).2, QK.use (rn_ev ha).2, QK.use (rn_ev hc).2, QK.use (rn_ev h0).2, QK.use (rn_ev h1).2, QK.use (rn_ev h2).2, QK.use (rn_ev h3).2]) <;> (by_cases ec : c = 0 <;> simp (config := { maxSteps := 10000000 }) (disch := omega) only [go_sem, simprocAttr, passK_shut CxP93, QK.use (rn_ev hf).2, QK.use (rn_ev ht).2, QK.use (rn_ev hl).2, QK.use (rn_ev ha).2, QK.use (rn_ev hc).2, QK.use (rn_ev h0).2, QK.use (rn_ev h1).2, QK.use (rn_ev h2).2, QK.use (rn_ev h3).2]) <;> (cases b <;> simp (config := { maxSteps := 10000000 }) (disch := omega) only [go_sem, simprocAttr, passK_shut CxP93, QK.use (rn_ev hf).2, QK.use (rn_ev ht).2, QK.use (rn_ev hl).2, QK.use (rn_ev ha).2, QK.use (rn_ev hc).2, QK.use (rn_ev h0).2, QK.use (rn_ev h1).2, QK.use (rn_ev h2).2, QK.use (rn_ev h3).2]) <;> (cases hd : (d0 == 0 && (d1 == 0 && (d2 == 0 && d3 == 0))) <;> simp (config := { maxSteps := 10000000 }) (disch := omega) only [go_sem, simprocAttr, passK_shut CxP93, QK.use (rn_ev hf).2, QK.use (rn_ev ht).2, QK.use (rn_ev hl).2, QK.use (rn_ev ha).2, QK.use (rn_ev hc).2, QK.use (rn_ev h0).2, QK.use (rn_ev h1).2, QK.use (rn_ev h2).2, QK.use (rn_ev h3).2, hd]) <;> (try (iterate 5 (rw [runK_loop]; simp (config := { maxSteps := 10000000 }) (disch := omega) only [go_sem, simprocAttr, passK_shut CxP93, QK.use (rn_ev hf).2, QK.use (rn_ev ht).2, QK.use (rn_ev hl).2, QK.use (rn_ev ha).2, QK.use (rn_ev hc).2, QK.use (rn_ev h0).2, QK.use (rn_ev h1).2, QK.use (rn_ev h2).2, QK.use (rn_ev h3).2])))
    all_goals (refine congrArg Value.string ?_; apply ba_ext; simp only [hX, words_eq, joinB_app _ _ (hdK_ne k) (List.cons_ne_nil _ _), optA, optC, optB, optD, ea, ec, hd, if_true, if_false, Bool.false_eq_true, List.cons_append, List.nil_append, List.append_nil, joinB_cons, joinB_one, ByteArray.data_append, Array.toList_append, sSp, sGt, sLine, sAsker, sAcks, sAlone, sData, List.append_assoc]; rfl)
end Go.Proofs.YtijpomemobgddaaGreatDoor.Ev
namespace Go.Proofs.YtijpomemobgddaaGreatDoor.Ev
open Go Go.RowKit
set_option maxRecDepth 100000
theorem ix0 (b : UInt8) (l : List UInt8) : (⟨⟨b :: l⟩⟩ : ByteArray)[0]? = some b := rfl
theorem ix1 (a b : UInt8) (l : List UInt8) : (⟨⟨a :: b :: l⟩⟩ : ByteArray)[1]? = some b := rfl
theorem ix2 (a b c : UInt8) (l : List UInt8) : (⟨⟨a :: b :: c :: l⟩⟩ : ByteArray)[2]? = some c := rfl
theorem wrap_u8m (n : Int) : IntKind.u8.wrap n = n % 256 := by
  simp [IntKind.wrap, IntKind.bits, IntKind.signed]
theorem b_rng (b : UInt8) : 0 ≤ (b.toNat : Int) ∧ (b.toNat : Int) < 256 := by
  have := b.toNat_lt
  omega
theorem val_ex (w : ByteArray) : ∃ v : Int, (0 ≤ v ∧ v < 256) ∧ EvQ Cx 96 [Sv w] (I8 v) := by
  have ex : ∃ r0, RunK Cx [.code m96] ⟨argE 0 [Sv w], []⟩ (FinQ Cx.T .shut fn96.res r0) ∧ ∃ v : Int, (0 ≤ v ∧ v < 256) ∧ r0 = I8 v := by
    obtain ⟨⟨l⟩⟩ := w
    match l with
    | [] =>
      simp (config := { maxSteps := 10000000 }) (disch := omega) only [go_sem, simprocAttr]
      simp only [runK_loop]
      simp (config := { maxSteps := 10000000 }) (disch := omega) only [go_sem, simprocAttr]
      exact ⟨_, rfl, _, by omega, rfl⟩
    | [a] =>
      have ha := b_rng a
      simp (config := { maxSteps := 10000000 }) (disch := omega) only [go_sem, simprocAttr]
      iterate 2 (simp only [runK_loop]; simp (config := { maxSteps := 10000000 }) (disch := omega) only [go_sem, simprocAttr, ix0, wrap_u8m])
      exact ⟨_, rfl, _, by omega, rfl⟩
    | [a, b] =>
      have ha := b_rng a
      have hb := b_rng b
      simp (config := { maxSteps := 10000000 }) (disch := omega) only [go_sem, simprocAttr]
      iterate 3 (simp only [runK_loop]; simp (config := { maxSteps := 10000000 }) (disch := omega) only [go_sem, simprocAttr, ix0, ix1, wrap_u8m])
      exact ⟨_, rfl, _, by omega, rfl⟩
    | a :: b :: c :: l =>
      have ha := b_rng a
      have hb := b_rng b
      have hc := b_rng c
      have hl : (0 : Int) ≤ l.length := by omega
      cases l with
      | nil =>
        simp (config := { maxSteps := 10000000 }) (disch := omega) only [go_sem, simprocAttr]
        iterate 4 (simp only [runK_loop]; simp (config := { maxSteps := 10000000 }) (disch := omega) only [go_sem, simprocAttr, ix0, ix1, ix2, wrap_u8m])
        exact ⟨_, rfl, _, by omega, rfl⟩
      | cons d l =>
        simp (config := { maxSteps := 10000000 }) (disch := omega) only [go_sem, simprocAttr]
        iterate 4 (simp only [runK_loop]; simp (config := { maxSteps := 10000000 }) (disch := omega) only [go_sem, simprocAttr, ix0, ix1, ix2, wrap_u8m])
        exact ⟨_, rfl, _, by omega, rfl⟩
  obtain ⟨r0, h1, v, hv, rfl⟩ := ex
  exact ⟨v, hv, evQ_of CxB96 rfl (by simp [fn96]) h1⟩
noncomputable def valE (w : ByteArray) : Int := Classical.choose (val_ex w)
theorem val_ev (w : ByteArray) : EvQ Cx 96 [Sv w] (I8 (valE w)) := (Classical.choose_spec (val_ex w)).2
theorem val_rng (w : ByteArray) : 0 ≤ valE w ∧ valE w < 256 := (Classical.choose_spec (val_ex w)).1
noncomputable def vdOk (n : Nat) : Bool := match (callsF Cx 60).1 96 [Sv (digB n)] with
  | some (.v (.int .u8 m)) => decide (m = n)
  | _ => false
theorem vd_all : (List.range 256).all vdOk = true := by kernel_rfl
theorem val_dig {n : Int} (h : 0 ≤ n ∧ n < 256) : valE (digB n) = n := by
  obtain ⟨m, rfl⟩ := Int.eq_ofNat_of_zero_le h.1
  have hm := List.all_eq_true.1 vd_all m (List.mem_range.2 (by omega))
  unfold vdOk at hm
  split at hm
  · rename_i x h1
    have e := of_decide_eq_true hm
    rw [e] at h1
    exact (i8_inj ((evQ_fast 60 h1).one (val_ev _))).symm
  · cases hm
def wsR : List UInt8 → ByteArray → List ByteArray
  | [], cur => [cur]
  | b :: l, cur => if b = 32 ∨ b = 62 then cur :: wsR l ⟨⟨[]⟩⟩ else wsR l (cur ++ ⟨⟨[b]⟩⟩)
def wsN : Nat → List UInt8 → ByteArray → List ByteArray
  | 0, _, cur => [cur]
  | _ + 1, [], cur => [cur]
  | n + 1, b :: l, cur => if b = 32 ∨ b = 62 then cur :: wsN n l ⟨⟨[]⟩⟩ else wsN n l (cur ++ ⟨⟨[b]⟩⟩)
theorem wsN_eq : ∀ (n : Nat) (l : List UInt8) (cur : ByteArray), l.length ≤ n → wsN n l cur = wsR l cur
  | 0, l, cur, h => by
    rw [List.eq_nil_of_length_eq_zero (Nat.le_zero.1 h)]
    rfl
  | n + 1, [], cur, _ => rfl
  | n + 1, b :: l, cur, h => by
    rw [wsN, wsR, wsN_eq n l _ (by simpa using h), wsN_eq n l _ (by simpa using h)]
theorem wsN_len : ∀ (n : Nat) (l : List UInt8) (cur : ByteArray), 0 < (wsN n l cur).length ∧ (wsN n l cur).length ≤ n + 1
  | 0, l, cur => by simp [wsN]
  | n + 1, [], cur => by simp [wsN]
  | n + 1, b :: l, cur => by
    rw [wsN]
    have h1 := wsN_len n l ⟨⟨[]⟩⟩
    have h2 := wsN_len n l (cur ++ ⟨⟨[b]⟩⟩)
    split
    · simp only [List.length_cons]; omega
    · omega
def StT (T : Heap) (v : A) (ws : List ByteArray) : Prop := (ws = [] ∧ v = An) ∨ (ws ≠ [] ∧ ∃ j, j < T.length ∧ v = .ref j 0 ws.length 1 ∧ ∀ l, (T ++ l)[j]? = some (some ⟨9, ws.map Sv, false⟩))
theorem stT_new {T T' : Heap} {k n : Nat} {ws : List ByteArray} {cs : List A} (hk : T.length = k) (hn : n = ws.length) (hne : ws ≠ []) (hc : cs = ws.map Sv) (hT : T' = T ++ [some ⟨9, cs, false⟩] := by rfl) : StT T' (.ref k 0 n 1) ws := by
  subst hc
  subst hT
  subst hk
  subst hn
  refine .inr ⟨hne, T.length, by simp, rfl, fun l => ?_⟩
  rw [List.append_assoc]
  exact ap_get0 _ _ _
theorem ap_two {α : Type} (T : List α) (a b : α) : T ++ [a, b] = T ++ [a] ++ [b] := by simp
theorem ext_one {s : ByteArray} {i : Nat} {b : UInt8} (h : s[i]? = some b) : s.extract i (i + 1) = ⟨⟨[b]⟩⟩ := by
  apply ba_ext
  obtain ⟨hi, hb⟩ := getElem?_eq_some_iff.1 h
  rw [ByteArray.data_extract, Array.toList_extract]
  have hl : i < s.data.toList.length := hi
  have e : s.data.toList[i] = b := hb
  simp only [List.extract]
  rw [List.drop_eq_getElem_cons hl, e]
  simp
theorem words_loop {s : ByteArray} (hs : s.size ≤ 2000) {KK : List It} {Q : Ex → Ev.St → Prop} : ∀ (l : List UInt8) (n i : Nat) (cur : ByteArray) (out : List ByteArray) (v : A) (T : Heap), s.data.toList.drop i = l → i + n = 1000 → cur.size ≤ i → out.length ≤ i → StT T v out →
    (∀ (cur' : ByteArray) (out' : List ByteArray) (v' : A) (T' : Heap) (e : Env), out' ++ [cur'] = out ++ wsN n l cur → out'.length ≤ 1000 → StT T' v' out' → look e 3 = some v' → look e 4 = some (Sv cur') → UnwK Cx (.out 0) KK ⟨e, T'⟩ Q) →
    RunK Cx (.code (.loop m95_l0) :: KK) ⟨[(0, Sv s), (3, v), (4, Sv cur), (5, I64 i)], T⟩ Q := by
  intro l
  induction l with
  | nil =>
    intro n i cur out v T hl hi hc ho hv hE
    have hz : s.size ≤ i := by
      have := congrArg List.length hl
      rw [List.length_drop, size_data] at this
      simp at this
      omega
    rw [runK_loop]
    simp (config := { maxSteps := 10000000 }) (disch := omega) only [go_sem, simprocAttr]
    exact hE cur out v T _ (by cases n <;> rfl) (by omega) hv rfl rfl
  | cons b l ih =>
    intro n i cur out v T hl hi hc ho hv hE
    have hz : i < s.size := by
      have := congrArg List.length hl
      rw [List.length_drop, size_data] at this
      simp at this
      omega
    have hb : s[i]? = some b := by
      have h := congrArg (·[0]?) hl
      simp only [List.getElem?_drop, Nat.add_zero, List.getElem?_cons_zero] at h
      have h3 : s[i] = b := by
        have h4 := (List.getElem?_eq_some_iff.1 h).2
        rw [Array.getElem_toList] at h4
        exact h4
      rw [getElem?_pos s i hz, h3]
    have hd : s.data.toList.drop (i + 1) = l := by
      rw [← List.drop_drop, hl]
      rfl
    rw [runK_loop]
    by_cases h1000 : i < 1000
    · obtain ⟨n, rfl⟩ : ∃ m, n = m + 1 := ⟨n - 1, by omega⟩
      have hst := fun cur out v T => ih n (i + 1) cur out v T hd (by omega)
      simp only [Int.natCast_add, Int.cast_ofNat_Int] at hst
      by_cases hsep : b = 32 ∨ b = 62
      · have hx : wsN (n + 1) (b :: l) cur = cur :: wsN n l ⟨⟨[]⟩⟩ := by rw [wsN, if_pos hsep]
        rw [hx] at hE
        have hst := fun v T hv => hst ⟨⟨[]⟩⟩ (out ++ [cur]) v T (Nat.zero_le _) (by simp; omega) hv (fun cur' out' v' T' e h => hE cur' out' v' T' e (by rw [h]; simp))
        have hbn : ((b.toNat : Int) = 32 ∨ ((b.toNat : Int) = 62 ∧ ¬ (b.toNat : Int) = 32)) := by
          rcases hsep with rfl | rfl
          · exact .inl rfl
          · exact .inr ⟨rfl, by decide⟩
        rcases hv with ⟨rfl, rfl⟩ | ⟨hne, j, hj, rfl, hjl⟩
        · rcases hbn with hbn | ⟨hbn, hbn'⟩
          all_goals
            simp (config := { maxSteps := 10000000 }) (disch := omega) only [go_sem, simprocAttr, hb, ap_get0, ap_set0, ap_getk, ap_setk, List.length_append, List.append_assoc, List.length_set]
            rw [loop_norm (l := [0, 3, 4, 5]) rfl]
            simp (config := { maxSteps := 10000000 }) (disch := omega) only [go_sem, simprocAttr]
            refine hst _ _ ?_
            rw [ap_two]
            refine stT_new ?_ ?_ ?_ ?_ (hT := rfl)
            · simp
            · simp
            · simp
            · simp
        · have hj0 := hjl []
          rw [List.append_nil] at hj0
          have hB : List.take out.length (out.map Sv) = out.map Sv := List.take_of_length_le (by simp)
          rcases hbn with hbn | ⟨hbn, hbn'⟩
          all_goals
            simp (config := { maxSteps := 10000000 }) (disch := omega) only [go_sem, simprocAttr, hb, hjl, hj0, hB, Nat.mul_one, List.length_map, ap_get0, ap_set0, ap_getk, ap_setk, List.length_append, List.append_assoc, List.length_set]
            rw [loop_norm (l := [0, 3, 4, 5]) rfl]
            simp (config := { maxSteps := 10000000 }) (disch := omega) only [go_sem, simprocAttr]
            refine hst _ _ ?_
            refine stT_new ?_ ?_ ?_ ?_ (hT := rfl)
            · simp
            · simp
            · simp
            · simp
      · have hx : wsN (n + 1) (b :: l) cur = wsN n l (cur ++ ⟨⟨[b]⟩⟩) := by rw [wsN, if_neg hsep]
        rw [hx] at hE
        have hn1 : ¬ (b.toNat : Int) = 32 := fun h => hsep (.inl (UInt8.toNat_inj.1 (by show b.toNat = 32; omega)))
        have hn2 : ¬ (b.toNat : Int) = 62 := fun h => hsep (.inr (UInt8.toNat_inj.1 (by show b.toNat = 62; omega)))
        have hst := hst (cur ++ ⟨⟨[b]⟩⟩) out v T (by simp only [ByteArray.size_append]; have : (⟨⟨[b]⟩⟩ : ByteArray).size = 1 := rfl; omega) (by omega) hv hE
        have he := ext_one hb
        have n1 : ((i : Int) + 1).toNat = i + 1 := by omega
        have zb : (⟨⟨[b]⟩⟩ : ByteArray).size = 1 := rfl
        simp (config := { maxSteps := 10000000 }) (disch := omega) only [go_sem, simprocAttr, hb, n1, he]
        rw [loop_norm (l := [0, 3, 4, 5]) rfl]
        simp (config := { maxSteps := 10000000 }) (disch := omega) only [go_sem, simprocAttr]
        exact hst
    · obtain rfl : n = 0 := by omega
      simp (config := { maxSteps := 10000000 }) (disch := omega) only [go_sem, simprocAttr]
      exact hE cur out v T _ rfl (by omega) hv rfl rfl
theorem words_ev {s : ByteArray} (hs : s.size ≤ 2000) : EvQ Cx 95 [Sv s] (.sl (wsN 1000 s.data.toList ⟨⟨[]⟩⟩).length ((wsN 1000 s.data.toList ⟨⟨[]⟩⟩).map Sv)) := by
  refine evQ_of CxB95 rfl (by simp [fn95]) ?_
  simp (config := { maxSteps := 10000000 }) (disch := omega) only [go_sem, simprocAttr]
  rw [loop_norm (l := [0, 3, 4, 5]) rfl]
  simp (config := { maxSteps := 10000000 }) (disch := omega) only [go_sem, simprocAttr]
  refine words_loop hs s.data.toList 1000 0 ⟨⟨[]⟩⟩ [] An [] rfl rfl (Nat.zero_le _) (Nat.zero_le _) (.inl ⟨rfl, rfl⟩) fun cur' out' v' T' e h hl hv e3 e4 => ?_
  rw [List.nil_append] at h
  rw [← h]
  rcases hv with ⟨rfl, rfl⟩ | ⟨hne, j, hj, rfl, hjl⟩
  · simp (config := { maxSteps := 10000000 }) (disch := omega) only [go_sem, simprocAttr, e3, e4, ap_get0, ap_set0, ap_getk, ap_setk, List.length_append, List.append_assoc, List.length_set]
  · have hB : List.take out'.length (out'.map Sv) = out'.map Sv := List.take_of_length_le (by simp)
    have hB2 : List.take (out'.length + 1) (out'.map Sv ++ [Sv cur']) = out'.map Sv ++ [Sv cur'] := List.take_of_length_le (by simp)
    have hF : ∀ H, mapO (freeze H 19) (out'.map Sv ++ [Sv cur']) = some (out'.map Sv ++ [Sv cur']) := fun H => by
      have := fz_strs (H := H) (n := 18) (out' ++ [cur'])
      simpa using this
    have g : ∀ (L : Heap) (y : Option Blk) (n : Nat), L.length = n → (L ++ [y])[n]? = some y := fun L y n h => by
      subst h
      exact ap_get0 _ _ _
    simp (config := { maxSteps := 10000000 }) (disch := omega) only [go_sem, simprocAttr, e3, e4, hjl, hB, hB2, Nat.mul_one, List.length_map, ap_get0, ap_set0, ap_getk, ap_setk, List.length_append, List.append_assoc, List.length_set]
    rw [g _ _ _ (by simp)]
    simp only [List.length_append, List.length_map, List.length_cons, List.length_nil, Nat.le_refl, if_true, hB2, hF]
    simp
end Go.Proofs.YtijpomemobgddaaGreatDoor.Ev
namespace Go.Proofs.YtijpomemobgddaaGreatDoor.Ev
open Go Go.RowKit
set_option maxRecDepth 100000
theorem l_kind : (⟨⟨[⟨107#8⟩, ⟨105#8⟩, ⟨110#8⟩, ⟨100#8⟩]⟩⟩ : ByteArray) = sKind := rfl
theorem l_line : (⟨⟨[⟨108#8⟩, ⟨105#8⟩, ⟨110#8⟩, ⟨101#8⟩]⟩⟩ : ByteArray) = sLine := rfl
theorem l_asker : (⟨⟨[⟨97#8⟩, ⟨115#8⟩, ⟨107#8⟩, ⟨101#8⟩, ⟨114#8⟩]⟩⟩ : ByteArray) = sAsker := rfl
theorem l_acks : (⟨⟨[⟨97#8⟩, ⟨99#8⟩, ⟨107#8⟩, ⟨115#8⟩]⟩⟩ : ByteArray) = sAcks := rfl
theorem l_alone : (⟨⟨[⟨97#8⟩, ⟨108#8⟩, ⟨111#8⟩, ⟨110#8⟩, ⟨101#8⟩]⟩⟩ : ByteArray) = sAlone := rfl
theorem l_data : (⟨⟨[⟨100#8⟩, ⟨97#8⟩, ⟨116#8⟩, ⟨97#8⟩]⟩⟩ : ByteArray) = sData := rfl
structure Mv where
  k : Int
  f : Int
  t : Int
  l : Int
  a : Int
  c : Int
  b : Bool
  d0 : Int
  d1 : Int
  d2 : Int
  d3 : Int
def Mv.C (m : Mv) : List A := msgA m.k m.f m.t m.l m.a m.c m.b m.d0 m.d1 m.d2 m.d3
def Mv.W (m : Mv) : List ByteArray := wordsM m.k m.f m.t m.l m.a m.c m.b m.d0 m.d1 m.d2 m.d3
def Mv.Ok (m : Mv) : Prop := (0 ≤ m.k ∧ m.k < 256) ∧ (0 ≤ m.f ∧ m.f < 256) ∧ (0 ≤ m.t ∧ m.t < 256) ∧ (0 ≤ m.l ∧ m.l < 256) ∧ (0 ≤ m.a ∧ m.a < 256) ∧ (0 ≤ m.c ∧ m.c < 256) ∧ (0 ≤ m.d0 ∧ m.d0 < 256) ∧ (0 ≤ m.d1 ∧ m.d1 < 256) ∧ (0 ≤ m.d2 ∧ m.d2 < 256) ∧ (0 ≤ m.d3 ∧ m.d3 < 256)
noncomputable def nxR : List ByteArray → Int
  | [] => 0
  | v :: _ => valE v
noncomputable def stR (w : ByteArray) (r : List ByteArray) (m : Mv) : Mv :=
  if w = sLine then { m with l := nxR r } else if w = sAsker then { m with a := nxR r } else if w = sAcks then { m with c := nxR r } else if w = sAlone then { m with b := true } else
  match r with
  | v0 :: v1 :: v2 :: v3 :: _ => if w = sData then { m with d0 := valE v0, d1 := valE v1, d2 := valE v2, d3 := valE v3 } else m
  | _ => m
noncomputable def foldR : List ByteArray → Mv → Mv
  | [], m => m
  | w :: r, m => foldR r (stR w r m)
def nmB : List ByteArray := [nameF 1, nameF 2, nameF 3, nameF 4, nameF 5, nameF 6, nameF 7, nameF 8, nameF 9, nameF 10, nameF 11, nameF 12]
theorem nms_map : nms = nmB.map Sv := nms_eq
def kN : List ByteArray → Int → ByteArray → Int → Int
  | [], _, _, κ => κ
  | nm :: r, j, w, κ => kN r (j + 1) w (if w = nm then j + 1 else κ)
def pH (m : Mv) : Heap := [some ⟨77, mz, true⟩, some ⟨77, m.C, true⟩]
theorem be_no {a s : ByteArray} (h : ¬ a = s) : (a.toList == s.toList) = false := bs_ne fun e => h e.symm
theorem be_yes {a s : ByteArray} (h : a = s) : (a.toList == s.toList) = true := by rw [h]; exact beq_self_eq_true _
theorem drop_pre {pre r : List ByteArray} : List.drop pre.length ((pre ++ r).map Sv) = r.map Sv := by
  rw [List.map_append, List.drop_append_of_le_length (by simp)]
  simp
theorem names_loop {s : ByteArray} {w : ByteArray} {ws : List ByteArray} {m : Mv} {KK : List It} {Q : Ex → Ev.St → Prop} : ∀ (r pre : List ByteArray) (κ : Int), nmB = pre ++ r →
    (∀ e : Env, look e 0 = some (Sv s) → look e 2 = some (.ptr 0 0) → look e 4 = some (.sl (ws.length + 1) (Sv w :: ws.map Sv)) → look e 5 = some (.ptr 1 0) → UnwK Cx (.out 0) KK ⟨e, pH { m with k := kN r pre.length w κ }⟩ Q) →
    RunK Cx (.code (.loop m60_l0) :: KK) ⟨[(0, Sv s), (2, .ptr 0 0), (4, .sl (ws.length + 1) (Sv w :: ws.map Sv)), (5, .ptr 1 0), (6, I64 pre.length)], pH { m with k := κ }⟩ Q := by
  intro r
  induction r with
  | nil =>
    intro pre κ hp hE
    have hl : pre.length = 12 := by
      rw [List.append_nil] at hp
      rw [← hp]
      rfl
    rw [runK_loop]
    simp (config := { maxSteps := 10000000 }) (disch := omega) only [go_sem, simprocAttr, passK_shut CxP94, QK.use names_ev, hl]
    rw [kN] at hE
    exact hE _ rfl rfl rfl rfl
  | cons nm r ih =>
    intro pre κ hp hE
    have hl : pre.length + 1 + r.length = 12 := by
      have := congrArg List.length hp
      simp [nmB] at this
      omega
    have hd : List.drop pre.length nms = Sv nm :: r.map Sv := by
      rw [nms_map, hp, drop_pre]
      rfl
    have hx : kN (nm :: r) pre.length w κ = kN r ((pre ++ [nm]).length : Nat) w (if w = nm then (pre.length : Int) + 1 else κ) := by
      rw [kN]
      simp
    rw [hx] at hE
    rw [runK_loop]
    by_cases hw : w = nm
    · have hb := be_yes hw
      have hst := ih (pre ++ [nm]) ((pre.length : Int) + 1) (by rw [hp]; simp) (by rw [if_pos hw] at hE; exact hE)
      have hc : (((pre ++ [nm]).length : Nat) : Int) = (pre.length : Int) + 1 := by simp
      rw [hc] at hst
      simp (config := { maxSteps := 10000000 }) (disch := omega) only [go_sem, simprocAttr, pH, Mv.C, msgA, passK_shut CxP94, QK.use names_ev, Nat.mul_one, hd, hb]
      rw [loop_norm (l := [0, 2, 4, 5, 6]) rfl]
      simp (config := { maxSteps := 10000000 }) (disch := omega) only [go_sem, simprocAttr]
      exact hst
    · have hb := be_no hw
      have hst := ih (pre ++ [nm]) κ (by rw [hp]; simp) (by rw [if_neg hw] at hE; exact hE)
      have hc : (((pre ++ [nm]).length : Nat) : Int) = (pre.length : Int) + 1 := by simp
      rw [hc] at hst
      simp (config := { maxSteps := 10000000 }) (disch := omega) only [go_sem, simprocAttr, pH, Mv.C, msgA, passK_shut CxP94, QK.use names_ev, Nat.mul_one, hd, hb]
      rw [loop_norm (l := [0, 2, 4, 5, 6]) rfl]
      simp (config := { maxSteps := 10000000 }) (disch := omega) only [go_sem, simprocAttr]
      exact hst
end Go.Proofs.YtijpomemobgddaaGreatDoor.Ev
