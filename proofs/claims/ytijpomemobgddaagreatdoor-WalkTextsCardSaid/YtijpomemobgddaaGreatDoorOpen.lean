/- A law's arguments, opened: what the row reads of them, as the evaluator's values: numbers, truth values, strings, structs, arrays, slices of these. -/
import Derived.Test.YtijpomemobgddaaGreatDoorFrame
import Derived.Test.YtijpomemobgddaaGreatDoorE1
import Derived.SizedLaws
set_option linter.unusedSimpArgs false
set_option linter.unusedVariables false
namespace Go.Proofs.YtijpomemobgddaaGreatDoor
open Go Go.RowKit Go.Proofs.YtijpomemobgddaaGreatDoor.Ev
open Go.ChangeShapes Go.WideShapes Go.ChangeAt

inductive Sh where
  | sc (s : Sc)
  | sl (e : List Sh)
  | any
def oneV : Value → Bool
  | .slice _ _ _ => true
  | _ => false
mutual
def shFits : Sh → A → Prop
  | .sc s, a => ∃ x, a = .v x ∧ s.fits x
  | .sl e, a => ∃ (l : List (List A)), a = .sl l.length l.flatten ∧ l.length ≤ reachBytes ∧ ∀ c ∈ l, FitsA e c
  | .any, a => ∃ x, a = .v x ∧ oneV x = true
def FitsA : List Sh → List A → Prop
  | [], l => l = []
  | s :: ks, l => ∃ a l', l = a :: l' ∧ shFits s a ∧ FitsA ks l'
end
theorem fitsA_cons {s : Sh} {ks : List Sh} {l : List A} (h : FitsA (s :: ks) l) : ∃ a l', l = a :: l' ∧ shFits s a ∧ FitsA ks l' := by rwa [FitsA] at h
theorem fitsA_nil {l : List A} (h : FitsA [] l) : l = [] := by rwa [FitsA] at h
theorem sh_int {k : IntKind} {a : A} (h : shFits (.sc (.int k)) a) : ∃ x : Int, a = .v (.int k x) ∧ (Lit.int k x).wf = true := by
  rw [shFits] at h
  obtain ⟨x, rfl, n, rfl, hn⟩ := h
  exact ⟨n, rfl, hn⟩
theorem sh_u8 {a : A} (h : shFits (.sc (.int .u8)) a) : ∃ x : Int, a = .v (.int .u8 x) ∧ 0 ≤ x ∧ x ≤ 255 := by
  obtain ⟨x, h1, h2⟩ := sh_int h
  exact ⟨x, h1, u8_bounds h2⟩
theorem sh_i64 {a : A} (h : shFits (.sc (.int .i64)) a) : ∃ x : Int, a = .v (.int .i64 x) ∧ -9223372036854775808 ≤ x ∧ x ≤ 9223372036854775807 := by
  obtain ⟨x, h1, h2⟩ := sh_int h
  refine ⟨x, h1, ?_⟩
  simp [Lit.wf, IntKind.min, IntKind.max, IntKind.signed, IntKind.bits] at h2
  omega
theorem sh_bool {a : A} (h : shFits (.sc .bool) a) : ∃ b : Bool, a = .v (.bool b) := by
  rw [shFits] at h
  obtain ⟨x, rfl, n, rfl⟩ := h
  exact ⟨n, rfl⟩
theorem sh_str {a : A} (h : shFits (.sc .str) a) : ∃ s : ByteArray, a = .v (.string s) ∧ s.size ≤ maxLen := by
  rw [shFits] at h
  obtain ⟨x, rfl, n, rfl, hn⟩ := h
  exact ⟨n, rfl, hn⟩
theorem sh_sl {e : List Sh} {a : A} (h : shFits (.sl e) a) : ∃ (l : List (List A)), a = .sl l.length l.flatten ∧ l.length ≤ reachBytes ∧ ∀ c ∈ l, FitsA e c := by rwa [shFits] at h
theorem lift_list {α β : Type} {p : α → Prop} {f : α → β} : ∀ {l : List β}, (∀ c ∈ l, ∃ x, p x ∧ c = f x) → ∃ xs : List α, (∀ x ∈ xs, p x) ∧ l = xs.map f
  | [], _ => ⟨[], by simp, rfl⟩
  | c :: l, h => by
    obtain ⟨x, hx, rfl⟩ := h c (by simp)
    obtain ⟨xs, h1, rfl⟩ := lift_list (l := l) fun c hc => h c (by simp [hc])
    exact ⟨x :: xs, by simpa using ⟨hx, h1⟩, rfl⟩
theorem fitsA_append : ∀ {a b : List Sh} {xs ys : List A}, FitsA a xs → FitsA b ys → FitsA (a ++ b) (xs ++ ys)
  | [], _, xs, ys, h, h' => by
    rw [FitsA] at h
    subst h
    exact h'
  | s :: a, b, xs, ys, h, h' => by
    rw [FitsA] at h
    obtain ⟨x, xs', rfl, h1, h2⟩ := h
    rw [List.cons_append, FitsA]
    exact ⟨x, xs' ++ ys, rfl, h1, fitsA_append h2 h'⟩
theorem fitsA_len : ∀ {a : List Sh} {xs : List A}, FitsA a xs → xs.length = a.length
  | [], xs, h => by rw [FitsA] at h; simp [h]
  | _ :: _, xs, h => by
    rw [FitsA] at h
    obtain ⟨x, xs', rfl, -, h2⟩ := h
    simp [fitsA_len h2]

def fieldsS (P : Program) (F : TypeId → Option (List Sh)) : List Field → Nat → Option (List Sh)
  | [], _ => some []
  | f :: fs, off => if f.offset = off then (F f.type).bind fun a => if a.length = P.cellsOf f.type then (fieldsS P F fs (off + a.length)).map (a ++ ·) else none else none
/-- The cells of a type. -/
def flatS (P : Program) : Nat → TypeId → Option (List Sh)
  | 0, _ => none
  | n + 1, t =>
    match P.underlying t with
    | some .bool => some [.sc .bool]
    | some (.int k) => some [.sc (.int k)]
    | some .string => some [.sc .str]
    | some (.slice e) => (flatS P n e).bind fun a => if (a.length = P.cellsOf e ∧ 0 < a.length) ∧ 0 < P.bytesOf e then some [.sl a] else none
    | some (.struct fs) => (fieldsS P (flatS P n) fs.toList 0).bind fun ks => if ks.length = P.cellsOf t then some ks else none
    | some (.array k e) => (flatS P n e).bind fun a => if a.length = P.cellsOf e ∧ k * a.length = P.cellsOf t then some (List.replicate k a).flatten else none
    | _ => none

section
variable {H : Type} {enc : TypeId × Value → H} {P : Program} {w : World} {base : Nat} {spare : Nat → Bool} {held : Bool}
/-- Each string and each slice in it has room. -/
def Light (P : Program) (t : TypeId) (d : DataW H) : Prop := ∀ n ∈ d.weights P t, n ≤ reachBytes
theorem weights_mem_all : ∀ {ds : List (DataW H)} {j : Nat} {d : DataW H} {e : TypeId}, ds[j]? = some d → ∀ n ∈ d.weights P e, n ∈ DataW.weightsAll P e ds
  | d0 :: ds, 0, d, e, hd, n, hn => by
    simp only [List.getElem?_cons_zero, Option.some.injEq] at hd
    subst hd
    simp only [DataW.weightsAll, List.mem_append]
    exact Or.inl hn
  | d0 :: ds, j + 1, d, e, hd, n, hn => by
    simp only [List.getElem?_cons_succ] at hd
    simp only [DataW.weightsAll, List.mem_append]
    exact Or.inr (weights_mem_all hd n hn)
  | [], _, _, _, hd, _, _ => by simp at hd
/-- What is read, as the evaluator's values. -/
def Reads (w : World) (ks : List Sh) (cs : List Value) : Prop := ∃ l, FitsA ks l ∧ RL [] (fun _ => False) w l cs
theorem Reads.append {a b : List Sh} {xs ys : List Value} (h : Reads w a xs) (h' : Reads w b ys) : Reads w (a ++ b) (xs ++ ys) := by
  obtain ⟨l, h1, h2⟩ := h
  obtain ⟨l', h3, h4⟩ := h'
  exact ⟨l ++ l', fitsA_append h1 h3, RL.append h2 h4⟩
theorem Reads.nil : Reads w [] [] := ⟨[], by rw [FitsA], RL.nil⟩
theorem Reads.one {s : Sc} {v : Value} (h : s.fits v) : Reads w [.sc s] [v] := by
  refine ⟨[.v v], ?_, RL.cons (by rw [R]) RL.nil⟩
  rw [FitsA]
  refine ⟨_, _, rfl, ?_, by rw [FitsA]⟩
  rw [shFits]
  exact ⟨v, rfl, h⟩
theorem fields_reads {F : TypeId → Option (List Sh)} {n : Nat} {cs : List Value} (ih : ∀ t ks, F t = some ks → ∀ (cs : List Value) (x : DataW H × List MemPlace), DataW.trod enc P w base spare held n t cs = some x → Light P t x.1 → Reads w ks cs) :
    ∀ (fs : List Field) (off : Nat) (ks : List Sh), fieldsS P F fs off = some ks → (∀ f ∈ fs, ∃ x, DataW.trod enc P w base spare held n f.type ((cs.drop f.offset).take (P.cellsOf f.type)) = some x ∧ Light P f.type x.1) → cs.length = off + ks.length → Reads w ks (cs.drop off)
  | [], off, ks, h, _, hl => by
    simp only [fieldsS, Option.some.injEq] at h
    subst h
    rw [List.drop_eq_nil_of_le (by simp at hl; omega)]
    exact Reads.nil
  | f :: fs, off, ks, h, hx, hl => by
    simp only [fieldsS] at h
    split at h
    · rename_i ho
      obtain ⟨a, ha, h⟩ := Option.bind_eq_some_iff.1 h
      split at h
      · rename_i hal
        obtain ⟨r, hr, rfl⟩ := Option.map_eq_some_iff.1 h
        obtain ⟨x, hx0, hx1⟩ := hx f (.head _)
        have h1 := ih f.type a ha _ _ hx0 hx1
        have h2 := fields_reads ih fs (off + a.length) r hr (fun g hg => hx g (.tail _ hg)) (by rw [hl]; simp; omega)
        have e : cs.drop off = (cs.drop off).take a.length ++ cs.drop (off + a.length) := by
          rw [← List.drop_drop, List.take_append_drop]
        rw [e]
        rw [ho, ← hal] at h1
        exact h1.append h2
      · cases h
    · cases h
theorem rep_reads {a : List Sh} {cs : List Value} : ∀ (k off : Nat), (∀ i, i < k → Reads w a ((cs.drop (off + i * a.length)).take a.length)) → cs.length = off + k * a.length → Reads w (List.replicate k a).flatten (cs.drop off)
  | 0, off, _, hl => by
    rw [List.drop_eq_nil_of_le (by simp at hl; omega)]
    exact Reads.nil
  | k + 1, off, h, hl => by
    have h0 := h 0 (by omega)
    have h1 := rep_reads k (off + a.length) (fun i hi => by have := h (i + 1) (by omega); rwa [show off + a.length + i * a.length = off + (i + 1) * a.length by rw [Nat.add_mul]; omega]) (by rw [hl, Nat.add_mul]; omega)
    have e : cs.drop off = (cs.drop off).take a.length ++ cs.drop (off + a.length) := by
      rw [← List.drop_drop, List.take_append_drop]
    rw [e, List.replicate_succ, List.flatten_cons]
    simp only [Nat.zero_mul, Nat.add_zero] at h0
    exact h0.append h1
theorem cells_get {b0 : Nat} {a : Addr} {n : Nat} {cs : List Value} (h : w.cells? b0 a n = some cs) : cs.length = n ∧ ∀ i, i < n → w.cell? (a.add i) = cs[i]? := by
  unfold World.cells? at h
  split at h
  · exact ⟨by simpa using mapM_some_length h, fun i hi => mapM_some_get h i i (by simp [hi])⟩
  · cases h
theorem elems_reads {a : List Sh} {ad : Addr} (ha : 0 < a.length) : ∀ (len : Nat), (∀ i, i < len → ∃ cs, w.cells? base (ad.add (i * a.length)) a.length = some cs ∧ Reads w a cs) →
    ∃ (l : List (List A)) (xs : List Value), l.length = len ∧ (∀ c ∈ l, FitsA a c) ∧ RL [] (fun _ => False) w l.flatten xs ∧ xs.length = len * a.length ∧ ∀ i, i < len * a.length → w.cell? ((ad.add (i / a.length * a.length)).add (i % a.length)) = xs[i]?
  | 0, _ => ⟨[], [], rfl, by simp, RL.nil, by simp, by simp⟩
  | len + 1, h => by
    obtain ⟨l, xs, h1, h2, h3, h4, h5⟩ := elems_reads ha len fun i hi => h i (by omega)
    obtain ⟨cs, h6, c, h7, h8⟩ := h len (by omega)
    obtain ⟨h9, h10⟩ := cells_get h6
    refine ⟨l ++ [c], xs ++ cs, by simp [h1], ?_, ?_, ?_, ?_⟩
    · intro d hd
      rcases List.mem_append.1 hd with hd | hd
      · exact h2 d hd
      · rw [List.mem_singleton.1 hd]; exact h7
    · rw [List.flatten_append]
      simpa using RL.append h3 h8
    · simp [h4, h9, Nat.add_mul]
    · intro i hi
      rcases Nat.lt_or_ge i (len * a.length) with hlt | hge
      · rw [h5 i hlt, List.getElem?_append_left (by omega)]
      · have e1 : i / a.length = len := by
          rw [Nat.add_mul] at hi
          apply Nat.div_eq_of_lt_le
          · exact hge
          · rw [Nat.add_mul]; omega
        have e2 : i % a.length = i - len * a.length := by
          have := Nat.div_add_mod i a.length
          rw [e1, Nat.mul_comm] at this
          omega
        rw [e1, e2, h10 _ (by rw [Nat.add_mul] at hi; omega), List.getElem?_append_right (by omega), h4]
theorem flat_reads : ∀ (m : Nat) (t : TypeId) (ks : List Sh), flatS P m t = some ks → ∀ (fuel : Nat) (cs : List Value) (x : DataW H × List MemPlace), DataW.trod enc P w base spare held fuel t cs = some x → Light P t x.1 → Reads w ks cs
  | 0, _, _, h, _, _, _, _, _ => by simp [flatS] at h
  | m + 1, t, ks, h, fuel, cs, x, hx, hlight => by
    unfold flatS at h
    split at h
    · rename_i ht
      obtain ⟨b, rfl, -⟩ := DataW.trod_bool ht hx
      obtain rfl := Option.some.inj h
      exact Reads.one ⟨b, rfl⟩
    · rename_i k ht
      obtain ⟨y, rfl, -, hw⟩ := DataW.trod_int ht hx
      obtain rfl := Option.some.inj h
      exact Reads.one ⟨y, rfl, hw⟩
    · rename_i ht
      obtain ⟨s, rfl, -, hs⟩ := DataW.trod_string ht hx
      obtain rfl := Option.some.inj h
      exact Reads.one ⟨s, rfl, hs⟩
    · rename_i e ht
      obtain ⟨a, ha, h⟩ := Option.bind_eq_some_iff.1 h
      split at h
      · rename_i hlen0
        obtain ⟨hlen, hbytes⟩ := hlen0
        obtain rfl := Option.some.inj h
        have fin : ∀ (l : List (List A)) (v : Value), l.length ≤ reachBytes → (∀ c ∈ l, FitsA a c) → R [] (fun _ => False) w (.sl l.length l.flatten) v → Reads w [.sl a] [v] := fun l v h1 h2 h3 => by
          refine ⟨[.sl l.length l.flatten], ?_, RL.cons h3 RL.nil⟩
          rw [FitsA]
          refine ⟨_, _, rfl, ?_, by rw [FitsA]⟩
          rw [shFits]
          exact ⟨l, rfl, h1, h2⟩
        rcases DataW.trod_slice ht hx with ⟨rfl, -⟩ | ⟨ad, len, cap, elems, rest, n, rfl, rfl, hxd, hb, hl, hc, hel, hall, -⟩
        · refine fin [] _ (Nat.zero_le _) (by simp) ?_
          rw [R]
          exact .inl ⟨rfl, rfl, _, _, rfl⟩
        · have hroom : len ≤ reachBytes := by
            have := hlight ((elems.length + rest.length) * P.bytesOf e) (by simp [hxd, DataW.weights, ht])
            have h2 : (elems.length + rest.length) * 1 ≤ (elems.length + rest.length) * P.bytesOf e := Nat.mul_le_mul_left _ hbytes
            omega
          have hel' : ∀ i, i < len → ∀ y, elems[i]? = some y → Light P e y.1 := fun i hi y hy k hk => by
            refine hlight k ?_
            simp only [hxd, DataW.weights, ht]
            refine List.mem_cons_of_mem _ (List.mem_append_left _ (weights_mem_all (j := i) (d := y.1) ?_ k hk))
            rw [List.getElem?_map, hy]
            rfl
          have hele : ∀ i, i < len → ∃ cs, w.cells? base (ad.add (i * a.length)) a.length = some cs ∧ Reads w a cs := fun i hi => by
            obtain ⟨y, hy⟩ : ∃ y, elems[i]? = some y := ⟨_, List.getElem?_eq_getElem (by omega)⟩
            have h1 := (hall i hi).trans hy
            rw [← hlen.1] at h1
            obtain ⟨cs, h2, h3⟩ := Option.bind_eq_some_iff.1 h1
            exact ⟨cs, h2, flat_reads m e a ha n cs _ h3 (hel' i hi y hy)⟩
          obtain ⟨l, xs, h1, h2, h3, h4, h5⟩ := elems_reads hlen.2 len hele
          refine fin l _ (by omega) h2 ?_
          rw [R]
          rcases Nat.eq_zero_or_pos len with rfl | hpos
          · left
            have hl0 := List.eq_nil_of_length_eq_zero h1
            subst hl0
            exact ⟨rfl, rfl, _, _, rfl⟩
          · right
            have h0 := h5 0 (Nat.mul_pos hpos hlen.2)
            have hx0 : ∃ y, xs[0]? = some y := ⟨_, List.getElem?_eq_getElem (by rw [h4]; exact Nat.mul_pos hpos hlen.2)⟩
            obtain ⟨y0, hx0⟩ := hx0
            rw [hx0] at h0
            have had : (ad.add (0 / a.length * a.length)).add (0 % a.length) = ad := by simp [Addr.add]
            rw [had] at h0
            have hsp : ad.spot = none := by
              unfold World.cell? at h0
              split at h0
              · split at h0
                · cases h0
                · rename_i hs
                  simpa using hs
              · cases h0
            obtain ⟨g, off, sp⟩ := ad
            simp only at hsp
            subst hsp
            refine ⟨g, off, cap, xs, by rw [h1], by omega, World.block_lt_of_cell? w ⟨g, off, none⟩ h0, fun h => h, h3, fun i x hi => ?_⟩
            have hil : i < len * a.length := by
              rw [← h4]
              exact (List.getElem?_eq_some_iff.1 hi).1
            rw [← hi, ← h5 i hil]
            congr 1
            have := Nat.div_add_mod i a.length
            rw [Nat.mul_comm] at this
            unfold Addr.add
            split <;> split <;> simp_all <;> omega
      · cases h
    · rename_i fs ht
      obtain ⟨ks', hk, h⟩ := Option.bind_eq_some_iff.1 h
      split at h
      · rename_i hlen
        obtain rfl := Option.some.inj h
        obtain ⟨xs, n, -, hxd, hcl, hxl, hf⟩ := DataW.trod_struct ht hx
        have := fields_reads (P := P) (cs := cs) (n := n) (fun t ks hks cs x hx hy => flat_reads m t ks hks n cs x hx hy) fs.toList 0 ks' hk (fun f hfm => by
          obtain ⟨i, hi⟩ := List.mem_iff_getElem?.1 hfm
          have hi' : fs[i]? = some f := by simpa using hi
          have hlt := (Array.getElem?_eq_some_iff.1 hi').1
          obtain ⟨y, hy⟩ : ∃ y, xs[i]? = some y := ⟨_, List.getElem?_eq_getElem (by omega)⟩
          refine ⟨y, (hf i f hi').trans hy, fun k hk => hlight k ?_⟩
          simp only [hxd, DataW.weights, ht]
          refine DataW.weights_mem_each (j := i) (t := f.type) (d := y.1) ?_ ?_ k hk
          · rw [List.getElem?_map, hi]
            rfl
          · rw [List.getElem?_map, hy]
            rfl) (by omega)
        simpa using this
      · cases h
    · rename_i k e ht
      obtain ⟨a, ha, h⟩ := Option.bind_eq_some_iff.1 h
      split at h
      · rename_i hlen
        obtain rfl := Option.some.inj h
        obtain ⟨xs, n, -, hxd, hcl, hxl, hf⟩ := DataW.trod_array ht hx
        have := rep_reads (a := a) (cs := cs) k 0 (fun i hi => by
          obtain ⟨y, hy⟩ : ∃ y, xs[i]? = some y := ⟨_, List.getElem?_eq_getElem (by omega)⟩
          have h1 := (hf i hi).trans hy
          have := flat_reads m e a ha n _ _ h1 (fun k hk => hlight k (by
            simp only [hxd, DataW.weights, ht]
            refine weights_mem_all (j := i) (d := y.1) ?_ k hk
            rw [List.getElem?_map, hy]
            rfl))
          rwa [hlen.1, Nat.zero_add]) (by omega)
        simpa using this
      · cases h
    · cases h
/-- The cells of a type; of the slices only those of the chosen types are opened. -/
def flatO (P : Program) (op : TypeId → Bool) : Nat → TypeId → Option (List Sh)
  | 0, _ => none
  | n + 1, t =>
    match P.underlying t with
    | some .bool => some [.sc .bool]
    | some (.int k) => some [.sc (.int k)]
    | some .string => some [.sc .str]
    | some (.slice e) => bif op e then flatS P (n + 1) t else some [.any]
    | some (.struct fs) => (fieldsS P (flatO P op n) fs.toList 0).bind fun ks => if ks.length = P.cellsOf t then some ks else none
    | some (.array k e) => (flatO P op n e).bind fun a => if a.length = P.cellsOf e ∧ k * a.length = P.cellsOf t then some (List.replicate k a).flatten else none
    | _ => none
theorem flat_readsO {op : TypeId → Bool} : ∀ (m : Nat) (t : TypeId) (ks : List Sh), flatO P op m t = some ks → ∀ (fuel : Nat) (cs : List Value) (x : DataW H × List MemPlace), DataW.trod enc P w base spare held fuel t cs = some x → Light P t x.1 → Reads w ks cs
  | 0, _, _, h, _, _, _, _, _ => by simp [flatO] at h
  | m + 1, t, ks, h, fuel, cs, x, hx, hlight => by
    unfold flatO at h
    split at h
    · rename_i ht
      obtain ⟨b, rfl, -⟩ := DataW.trod_bool ht hx
      obtain rfl := Option.some.inj h
      exact Reads.one ⟨b, rfl⟩
    · rename_i k ht
      obtain ⟨y, rfl, -, hw⟩ := DataW.trod_int ht hx
      obtain rfl := Option.some.inj h
      exact Reads.one ⟨y, rfl, hw⟩
    · rename_i ht
      obtain ⟨s, rfl, -, hs⟩ := DataW.trod_string ht hx
      obtain rfl := Option.some.inj h
      exact Reads.one ⟨s, rfl, hs⟩
    · rename_i e ht
      cases ho : op e with
      | true =>
        rw [ho] at h
        exact flat_reads (m + 1) t ks h fuel cs x hx hlight
      | false =>
        rw [ho] at h
        obtain rfl := Option.some.inj h
        have fin : ∀ v : Value, oneV v = true → Reads w [.any] [v] := fun v hv => by
          refine ⟨[.v v], ?_, RL.cons (by rw [R]) RL.nil⟩
          rw [FitsA]
          refine ⟨_, _, rfl, ?_, by rw [FitsA]⟩
          rw [shFits]
          exact ⟨v, rfl, hv⟩
        rcases DataW.trod_slice ht hx with ⟨rfl, -⟩ | ⟨ad, len, cap, elems, rest, n, rfl, rfl, hxd, hb, hl, hc, hel, hall, -⟩
        · exact fin _ rfl
        · exact fin _ rfl
    · rename_i fs ht
      obtain ⟨ks', hk, h⟩ := Option.bind_eq_some_iff.1 h
      split at h
      · rename_i hlen
        obtain rfl := Option.some.inj h
        obtain ⟨xs, n, -, hxd, hcl, hxl, hf⟩ := DataW.trod_struct ht hx
        have := fields_reads (P := P) (cs := cs) (n := n) (fun t ks hks cs x hx hy => flat_readsO m t ks hks n cs x hx hy) fs.toList 0 ks' hk (fun f hfm => by
          obtain ⟨i, hi⟩ := List.mem_iff_getElem?.1 hfm
          have hi' : fs[i]? = some f := by simpa using hi
          have hlt := (Array.getElem?_eq_some_iff.1 hi').1
          obtain ⟨y, hy⟩ : ∃ y, xs[i]? = some y := ⟨_, List.getElem?_eq_getElem (by omega)⟩
          refine ⟨y, (hf i f hi').trans hy, fun k hk => hlight k ?_⟩
          simp only [hxd, DataW.weights, ht]
          refine DataW.weights_mem_each (j := i) (t := f.type) (d := y.1) ?_ ?_ k hk
          · rw [List.getElem?_map, hi]
            rfl
          · rw [List.getElem?_map, hy]
            rfl) (by omega)
        simpa using this
      · cases h
    · rename_i k e ht
      obtain ⟨a, ha, h⟩ := Option.bind_eq_some_iff.1 h
      split at h
      · rename_i hlen
        obtain rfl := Option.some.inj h
        obtain ⟨xs, n, -, hxd, hcl, hxl, hf⟩ := DataW.trod_array ht hx
        have := rep_reads (a := a) (cs := cs) k 0 (fun i hi => by
          obtain ⟨y, hy⟩ : ∃ y, xs[i]? = some y := ⟨_, List.getElem?_eq_getElem (by omega)⟩
          have h1 := (hf i hi).trans hy
          have := flat_readsO m e a ha n _ _ h1 (fun k hk => hlight k (by
            simp only [hxd, DataW.weights, ht]
            refine weights_mem_all (j := i) (d := y.1) ?_ k hk
            rw [List.getElem?_map, hy]
            rfl))
          rwa [hlen.1, Nat.zero_add]) (by omega)
        simpa using this
      · cases h
    · cases h
/-- A struct or an array, by value, of its slices only the chosen ones opened. -/
theorem open_aggO {op : TypeId → Bool} {t : TypeId} {v : Value} {d : DataW H} {p : List MemPlace} {ks : List Sh} (m : Nat) (hf : flatO P op m t = some ks) (hv : ∃ cs, v = .agg cs ∧ cs.size = P.cellsOf t) (h : DataW.Trod enc P w base spare held t v d p) (hd : Light P t d) : ∃ l, FitsA ks l ∧ R [] (fun _ => False) w (.agg l) v := by
  obtain ⟨cs, rfl, -⟩ := hv
  obtain ⟨fuel, hx⟩ := h
  obtain ⟨l, h1, h2⟩ := flat_readsO m t ks hf fuel _ _ hx hd
  refine ⟨l, h1, ?_⟩
  rw [R]
  exact ⟨cs.toList, by simp, by simpa [Value.cells] using h2⟩
/-- An argument of one cell. -/
theorem open_one {t : TypeId} {v : Value} {d : DataW H} {p : List MemPlace} {k : Sh} (m : Nat) (hf : flatS P m t = some [k]) (hv : ∀ cs, v ≠ .agg cs) (h : DataW.Trod enc P w base spare held t v d p) (hd : Light P t d) : ∃ a, shFits k a ∧ R [] (fun _ => False) w a v := by
  obtain ⟨fuel, hx⟩ := h
  obtain ⟨l, h1, h2⟩ := flat_reads m t _ hf fuel _ _ hx hd
  obtain ⟨a, l', rfl, h3, h4⟩ := fitsA_cons h1
  obtain rfl := fitsA_nil h4
  have hc : v.cells.toList = [v] := by
    cases v <;> first
      | rfl
      | exact absurd rfl (hv _)
  rw [hc, RL] at h2
  obtain ⟨x, xs, h5, h6, -⟩ := h2
  injection h5 with h7 _
  subst h7
  exact ⟨a, h3, h6⟩
/-- A struct or an array, by value. -/
theorem open_agg {t : TypeId} {v : Value} {d : DataW H} {p : List MemPlace} {ks : List Sh} (m : Nat) (hf : flatS P m t = some ks) (hv : ∃ cs, v = .agg cs ∧ cs.size = P.cellsOf t) (h : DataW.Trod enc P w base spare held t v d p) (hd : Light P t d) : ∃ l, FitsA ks l ∧ R [] (fun _ => False) w (.agg l) v := by
  obtain ⟨cs, rfl, -⟩ := hv
  obtain ⟨fuel, hx⟩ := h
  obtain ⟨l, h1, h2⟩ := flat_reads m t ks hf fuel _ _ hx hd
  refine ⟨l, h1, ?_⟩
  rw [R]
  exact ⟨cs.toList, by simp, by simpa [Value.cells] using h2⟩
theorem notAgg {r : Reach} {b0 : Nat} {t : TypeId} {v : Value} (h : Value.okWide P w r b0 t v) (hd : (match P.underlying t with | some .bool | some (.int _) | some .string | some (.slice _) => true | _ => false) = true) : ∀ cs, v ≠ .agg cs := by
  rintro cs rfl
  unfold Value.okWide at h
  split at hd
  · rename_i hu
    simp [hu, Cell.okWide, Cell.ok] at h
  · rename_i hu
    simp [hu, Cell.okWide, Cell.ok] at h
  · rename_i hu
    simp [hu, Cell.okWide, Cell.ok] at h
  · rename_i hu
    simp [hu, Cell.okWide, Cell.ok] at h
  · cases hd
end
end Go.Proofs.YtijpomemobgddaaGreatDoor
