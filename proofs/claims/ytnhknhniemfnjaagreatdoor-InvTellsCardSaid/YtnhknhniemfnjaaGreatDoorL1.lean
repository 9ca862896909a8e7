/- The frame of every law of this work: what a law's contract ('it returns true, and nothing that was there has changed') gives for its row; and a struct of five one-cell fields opened. -/
import Derived.Test.YtnhknhniemfnjaaGreatDoorRows
import Derived.WalkKit
import Derived.ProofKit
import Derived.OpenShut
import Derived.Lib.SmallJoins
import Derived.Deep.DeepHandedRow
import Derived.Lib.LaidTab
import Derived.Test.YtnhknhniemfnjaaGreatDoorK1
import Derived.SizedLaws
import Derived.Test.YtnhknhniemfnjaaGreatDoorK3
import Derived.LaidByTextLater
set_option linter.unusedSimpArgs false
set_option linter.unusedVariables false
namespace Go.Proofs.YtnhknhniemfnjaaGreatDoor
open Go.ChangeShapes Go.WideShapes Go.ChangeAt Go.RowKit Go.Joins Go.Deep
section
variable {H : Type} {enc : TypeId × Value → H} {P : Program}
theorem trodAll_below {W W' : World} (hl : laidOutB P = true) (hb : Below W.heap.size W W') : ∀ (ts : List TypeId) (vs : List Value) (ds : List (DataW H)) (p : List MemPlace), ts.all (fun t => P.readableRec t && decide (t < P.types.size)) = true →
    DataW.TrodAll enc P W 0 (fun _ => true) true ts vs ds p → (∀ x ∈ p, x.block < W.heap.size) → DataW.TrodAll enc P W' 0 (fun b => decide (b < W.heap.size)) true ts vs ds p
  | [], [], [], _, _, h, _ => h
  | [], [], _ :: _, _, _, h, _ => h.elim
  | [], _ :: _, _, _, _, h, _ => h.elim
  | _ :: _, [], _, _, _, h, _ => h.elim
  | _ :: _, _ :: _, [], _, _, h, _ => h.elim
  | t :: ts, v :: vs, d :: ds, _, hr, ⟨p, q, h1, h2, e⟩, hlt => by
    subst e
    simp only [List.all_cons, Bool.and_eq_true, decide_eq_true_eq] at hr
    exact ⟨p, q, Below.trod hl hr.1.1 hr.1.2 h1 hb (fun x hx => hlt x (List.mem_append_left _ hx)), trodAll_below hl hb ts vs ds q (by simpa using hr.2) h2 (fun x hx => hlt x (List.mem_append_right _ hx)), rfl⟩
theorem law_post {f : Func} {s : ChangeSpec} {W W' : World} {args : Array Value} {ds gs : List (DataW H)} {before : List MemPlace} {tb : TypeId} (hl : laidOutB P = true) (hps : f.params.toList.all (fun t => P.readableRec t && decide (t < P.types.size)) = true)
    (hv : s.vars = []) (hrt : f.resultTypes = #[tb]) (htb : P.underlying tb = some .bool) (hfn : (s.fn H (ds ++ [])).results = [.lit (.bool true)] ∧ (s.fn H (ds ++ [])).args = ds ∧ (s.fn H (ds ++ [])).vars = [])
    (hW : DataW.Whole enc P f.params.toList s.vars false W args.toList ds gs before) (hb : Below W.heap.size W W') : s.post enc P f false true false false W args (.bool true) W' := by
  have hlt := hW.lt
  have hW0 := hW
  obtain ⟨p, q, hA, hV, hpq, hfz, hnd⟩ := hW
  have hg : gs = [] ∧ q = [] := by
    rw [hv] at hV
    cases gs with
    | nil => exact ⟨rfl, hV⟩
    | cons g gs => exact hV.elim
  obtain ⟨rfl, rfl⟩ := hg
  subst hpq
  refine ⟨ds, [], _, [], p, [], hW0, ?_, ?_, ?_, hb.frame _, fun h => by cases h⟩
  · rw [hfn.1, hrt]
    exact trodAll_mk1 (shut_bool htb true)
  · rw [hfn.2.1]
    exact trodAll_below hl hb _ _ _ _ hps hA (fun x hx => hlt x (by simp [hx]))
  · rw [hfn.2.2, hv]
    rfl
variable {w : World} {base : Nat} {spare : Nat → Bool} {held : Bool}
theorem open_agg5 {r : Reach} {b0 : Nat} {t : TypeId} {f0 f1 f2 f3 f4 : Field} {v : Value} {d : DataW H} {p : List MemPlace} (hs : P.underlying t = some (.struct #[f0, f1, f2, f3, f4])) (hone : oneCellFields P #[f0, f1, f2, f3, f4] = true) (hC : P.cellsOf t = 5)
    (hv : Value.okWide P w r b0 t v) (h : DataW.Trod enc P w base spare held t v d p) :
    ∃ (v0 v1 v2 v3 v4 : Value) (y0 y1 y2 y3 y4 : DataW H × List MemPlace) (n : Nat), v = .agg #[v0, v1, v2, v3, v4] ∧
      DataW.trod enc P w base spare held n f0.type [v0] = some y0 ∧ DataW.trod enc P w base spare held n f1.type [v1] = some y1 ∧ DataW.trod enc P w base spare held n f2.type [v2] = some y2 ∧ DataW.trod enc P w base spare held n f3.type [v3] = some y3 ∧ DataW.trod enc P w base spare held n f4.type [v4] = some y4 := by
  obtain ⟨cs, rfl, hsz⟩ := okWide_struct hs hv
  obtain ⟨l⟩ := cs
  match l, hsz.trans hC with
  | [c0, c1, c2, c3, c4], _ =>
    obtain ⟨fuel, hf⟩ := h
    obtain ⟨xs, n, _, hx, _, hlen, hg⟩ := DataW.trod_struct hs hf
    obtain ⟨o0, k0⟩ := hone_of hone 0 f0 rfl
    obtain ⟨o1, k1⟩ := hone_of hone 1 f1 rfl
    obtain ⟨o2, k2⟩ := hone_of hone 2 f2 rfl
    obtain ⟨o3, k3⟩ := hone_of hone 3 f3 rfl
    obtain ⟨o4, k4⟩ := hone_of hone 4 f4 rfl
    match xs, hlen with
    | [y0, y1, y2, y3, y4], _ =>
      exact ⟨c0, c1, c2, c3, c4, y0, y1, y2, y3, y4, n, rfl, by simpa [Value.cells, o0, k0] using hg 0 f0 rfl, by simpa [Value.cells, o1, k1] using hg 1 f1 rfl, by simpa [Value.cells, o2, k2] using hg 2 f2 rfl, by simpa [Value.cells, o3, k3] using hg 3 f3 rfl, by simpa [Value.cells, o4, k4] using hg 4 f4 rfl⟩
theorem int_of_trod {k : IntKind} {t : TypeId} {n : Nat} {v : Value} {y : DataW H × List MemPlace} (ht : P.underlying t = some (.int k)) (h : DataW.trod enc P w base spare held n t [v] = some y) : ∃ x : Int, v = .int k x ∧ (Lit.int k x).wf = true := by
  obtain ⟨x, e, -, hw⟩ := DataW.trod_int ht h
  exact ⟨x, by simpa using e, hw⟩
end
/-! ### Arguments without pointers, opened to their cells -/
inductive Sc where
  | int (k : IntKind)
  | bool
  | str
def Sc.fits : Sc → Value → Prop
  | .int k, v => ∃ x : Int, v = .int k x ∧ (Lit.int k x).wf = true
  | .bool, v => ∃ b : Bool, v = .bool b
  | .str, v => ∃ s : ByteArray, v = .string s ∧ s.size ≤ maxLen
def Fits : List Sc → List Value → Prop
  | [], [] => True
  | s :: ks, v :: vs => s.fits v ∧ Fits ks vs
  | _, _ => False
theorem fits_cons {s : Sc} {ks : List Sc} {vs : List Value} (h : Fits (s :: ks) vs) : ∃ v vs', vs = v :: vs' ∧ s.fits v ∧ Fits ks vs' := by
  cases vs with
  | nil => exact h.elim
  | cons v vs => exact ⟨v, vs, rfl, h.1, h.2⟩
theorem fits_nil {vs : List Value} (h : Fits [] vs) : vs = [] := by
  cases vs with
  | nil => rfl
  | cons v vs => exact h.elim
theorem fits_append : ∀ {a b : List Sc} {xs ys : List Value}, Fits a xs → Fits b ys → Fits (a ++ b) (xs ++ ys)
  | [], _, [], _, _, h => h
  | [], _, _ :: _, _, h, _ => h.elim
  | _ :: _, _, [], _, h, _ => h.elim
  | _ :: _, _, _ :: _, _, h, h' => ⟨h.1, fits_append h.2 h'⟩
theorem fits_len : ∀ {a : List Sc} {xs : List Value}, Fits a xs → xs.length = a.length
  | [], [], _ => rfl
  | [], _ :: _, h => h.elim
  | _ :: _, [], h => h.elim
  | _ :: _, _ :: _, h => by simp [fits_len h.2]
def fieldsOf (P : Program) (F : TypeId → Option (List Sc)) : List Field → Nat → Option (List Sc)
  | [], _ => some []
  | f :: fs, off => if f.offset = off then (F f.type).bind fun a => if a.length = P.cellsOf f.type then (fieldsOf P F fs (off + a.length)).map (a ++ ·) else none else none
def flat (P : Program) : Nat → TypeId → Option (List Sc)
  | 0, _ => none
  | n + 1, t =>
    match P.underlying t with
    | some .bool => some [.bool]
    | some (.int k) => some [.int k]
    | some .string => some [.str]
    | some (.struct fs) => (fieldsOf P (flat P n) fs.toList 0).bind fun ks => if ks.length = P.cellsOf t then some ks else none
    | some (.array k e) => (flat P n e).bind fun a => if a.length = P.cellsOf e ∧ k * a.length = P.cellsOf t then some (List.replicate k a).flatten else none
    | _ => none
section
variable {H : Type} {enc : TypeId × Value → H} {P : Program} {w : World} {base : Nat} {spare : Nat → Bool} {held : Bool}
theorem fields_fit {F : TypeId → Option (List Sc)} {n : Nat} {cs : List Value} (ih : ∀ t ks, F t = some ks → ∀ (cs : List Value) (x : DataW H × List MemPlace), DataW.trod enc P w base spare held n t cs = some x → Fits ks cs) :
    ∀ (fs : List Field) (off : Nat) (ks : List Sc), fieldsOf P F fs off = some ks → (∀ f ∈ fs, ∃ x, DataW.trod enc P w base spare held n f.type ((cs.drop f.offset).take (P.cellsOf f.type)) = some x) → cs.length = off + ks.length → Fits ks (cs.drop off)
  | [], off, ks, h, _, hl => by
    simp only [fieldsOf, Option.some.injEq] at h
    subst h
    rw [List.drop_eq_nil_of_le (by simp at hl; omega)]
    trivial
  | f :: fs, off, ks, h, hx, hl => by
    simp only [fieldsOf] at h
    split at h
    · rename_i ho
      obtain ⟨a, ha, h⟩ := Option.bind_eq_some_iff.1 h
      split at h
      · rename_i hal
        obtain ⟨r, hr, rfl⟩ := Option.map_eq_some_iff.1 h
        obtain ⟨x, hx0⟩ := hx f (.head _)
        have h1 := ih f.type a ha _ _ hx0
        have h2 := fields_fit ih fs (off + a.length) r hr (fun g hg => hx g (.tail _ hg)) (by rw [hl]; simp; omega)
        have e : cs.drop off = (cs.drop off).take a.length ++ cs.drop (off + a.length) := by
          rw [← List.drop_drop, List.take_append_drop]
        rw [e]
        rw [ho, ← hal] at h1
        exact fits_append h1 h2
      · cases h
    · cases h
theorem rep_fit {a : List Sc} {cs : List Value} : ∀ (k off : Nat), (∀ i, i < k → Fits a ((cs.drop (off + i * a.length)).take a.length)) → cs.length = off + k * a.length → Fits (List.replicate k a).flatten (cs.drop off)
  | 0, off, _, hl => by
    rw [List.drop_eq_nil_of_le (by simp at hl; omega)]
    trivial
  | k + 1, off, h, hl => by
    have h0 := h 0 (by omega)
    have h1 := rep_fit k (off + a.length) (fun i hi => by have := h (i + 1) (by omega); rwa [show off + a.length + i * a.length = off + (i + 1) * a.length by rw [Nat.add_mul]; omega]) (by rw [hl, Nat.add_mul]; omega)
    have e : cs.drop off = (cs.drop off).take a.length ++ cs.drop (off + a.length) := by
      rw [← List.drop_drop, List.take_append_drop]
    rw [e, List.replicate_succ, List.flatten_cons]
    simp only [Nat.zero_mul, Nat.add_zero] at h0
    exact fits_append h0 h1
theorem flat_fits : ∀ (m : Nat) (t : TypeId) (ks : List Sc), flat P m t = some ks → ∀ (fuel : Nat) (cs : List Value) (x : DataW H × List MemPlace), DataW.trod enc P w base spare held fuel t cs = some x → Fits ks cs
  | 0, _, _, h, _, _, _, _ => by simp [flat] at h
  | m + 1, t, ks, h, fuel, cs, x, hx => by
    unfold flat at h
    split at h
    · rename_i ht
      obtain ⟨b, rfl, -⟩ := DataW.trod_bool ht hx
      obtain rfl := Option.some.inj h
      exact ⟨⟨b, rfl⟩, trivial⟩
    · rename_i k ht
      obtain ⟨y, rfl, -, hw⟩ := DataW.trod_int ht hx
      obtain rfl := Option.some.inj h
      exact ⟨⟨y, rfl, hw⟩, trivial⟩
    · rename_i ht
      obtain ⟨s, rfl, -, hs⟩ := DataW.trod_string ht hx
      obtain rfl := Option.some.inj h
      exact ⟨⟨s, rfl, hs⟩, trivial⟩
    · rename_i fs ht
      obtain ⟨ks', hk, h⟩ := Option.bind_eq_some_iff.1 h
      split at h
      · rename_i hlen
        obtain rfl := Option.some.inj h
        obtain ⟨xs, n, -, -, hcl, hxl, hf⟩ := DataW.trod_struct ht hx
        have := fields_fit (P := P) (cs := cs) (n := n) (fun t ks hks cs x hx => flat_fits m t ks hks n cs x hx) fs.toList 0 ks' hk (fun f hfm => by
          obtain ⟨i, hi⟩ := List.mem_iff_getElem?.1 hfm
          have hi' : fs[i]? = some f := by simpa using hi
          have hlt := (Array.getElem?_eq_some_iff.1 hi').1
          exact ⟨_, (hf i f hi').trans (List.getElem?_eq_getElem (by omega))⟩) (by omega)
        simpa using this
      · cases h
    · rename_i k e ht
      obtain ⟨a, ha, h⟩ := Option.bind_eq_some_iff.1 h
      split at h
      · rename_i hlen
        obtain rfl := Option.some.inj h
        obtain ⟨xs, n, -, -, hcl, hxl, hf⟩ := DataW.trod_array ht hx
        have := rep_fit (a := a) (cs := cs) k 0 (fun i hi => by
          have h1 := (hf i hi).trans (List.getElem?_eq_getElem (by omega))
          have := flat_fits m e a ha n _ _ h1
          rwa [hlen.1, Nat.zero_add]) (by omega)
        simpa using this
      · cases h
    · cases h
theorem okWide_array {r : Reach} {b0 : Nat} {t : TypeId} {n : Nat} {e : TypeId} {v : Value} (ht : P.underlying t = some (.array n e)) (h : Value.okWide P w r b0 t v) : ∃ cs, v = .agg cs ∧ cs.size = P.cellsOf t := by
  simp only [Value.okWide, ht] at h
  obtain ⟨cs, h1, h2, _⟩ := h
  exact ⟨cs, h1, h2⟩
theorem open_flat {t : TypeId} {v : Value} {d : DataW H} {p : List MemPlace} {ks : List Sc} (m : Nat) (hf : flat P m t = some ks) (hv : ∃ cs, v = .agg cs ∧ cs.size = P.cellsOf t) (h : DataW.Trod enc P w base spare held t v d p) : ∃ l : List Value, v = .agg l.toArray ∧ Fits ks l := by
  obtain ⟨cs, rfl, -⟩ := hv
  obtain ⟨fuel, hx⟩ := h
  exact ⟨cs.toList, by simp, flat_fits m t ks hf fuel _ _ hx⟩
end
theorem u8_bounds {x : Int} (h : (Lit.int .u8 x).wf = true) : 0 ≤ x ∧ x ≤ 255 := by
  have := bounds_u8 h
  omega
end Go.Proofs.YtnhknhniemfnjaaGreatDoor
namespace Go.Proofs.YtnhknhniemfnjaaGreatDoor
open Go Go.RowKit Go.Proofs.YtnhknhniemfnjaaGreatDoor.Ev
open Go.ChangeShapes Go.WideShapes Go.ChangeAt
inductive Sh where
  | sc (s : Sc)
  | sl (e : List Sh)
  | any
def oneV : Value → Bool
  | .slice _ _ _ => true
  | _ => false
mutual
def shFits : Sh → A → Prop
  | .sc s, a => ∃ x, a = .v x ∧ s.fits x
  | .sl e, a => ∃ (l : List (List A)), a = .sl l.length l.flatten ∧ l.length ≤ reachBytes ∧ ∀ c ∈ l, FitsA e c
  | .any, a => ∃ x, a = .v x ∧ oneV x = true
def FitsA : List Sh → List A → Prop
  | [], l => l = []
  | s :: ks, l => ∃ a l', l = a :: l' ∧ shFits s a ∧ FitsA ks l'
end
theorem fitsA_cons {s : Sh} {ks : List Sh} {l : List A} (h : FitsA (s :: ks) l) : ∃ a l', l = a :: l' ∧ shFits s a ∧ FitsA ks l' := by rwa [FitsA] at h
theorem fitsA_nil {l : List A} (h : FitsA [] l) : l = [] := by rwa [FitsA] at h
theorem sh_int {k : IntKind} {a : A} (h : shFits (.sc (.int k)) a) : ∃ x : Int, a = .v (.int k x) ∧ (Lit.int k x).wf = true := by
  rw [shFits] at h
  obtain ⟨x, rfl, n, rfl, hn⟩ := h
  exact ⟨n, rfl, hn⟩
theorem sh_u8 {a : A} (h : shFits (.sc (.int .u8)) a) : ∃ x : Int, a = .v (.int .u8 x) ∧ 0 ≤ x ∧ x ≤ 255 := by
  obtain ⟨x, h1, h2⟩ := sh_int h
  exact ⟨x, h1, u8_bounds h2⟩
theorem sh_i64 {a : A} (h : shFits (.sc (.int .i64)) a) : ∃ x : Int, a = .v (.int .i64 x) ∧ -9223372036854775808 ≤ x ∧ x ≤ 9223372036854775807 := by
  obtain ⟨x, h1, h2⟩ := sh_int h
  refine ⟨x, h1, ?_⟩
  simp [Lit.wf, IntKind.min, IntKind.max, IntKind.signed, IntKind.bits] at h2
  omega
theorem sh_bool {a : A} (h : shFits (.sc .bool) a) : ∃ b : Bool, a = .v (.bool b) := by
  rw [shFits] at h
  obtain ⟨x, rfl, n, rfl⟩ := h
  exact ⟨n, rfl⟩
theorem sh_str {a : A} (h : shFits (.sc .str) a) : ∃ s : ByteArray, a = .v (.string s) ∧ s.size ≤ maxLen := by
  rw [shFits] at h
  obtain ⟨x, rfl, n, rfl, hn⟩ := h
  exact ⟨n, rfl, hn⟩
theorem sh_sl {e : List Sh} {a : A} (h : shFits (.sl e) a) : ∃ (l : List (List A)), a = .sl l.length l.flatten ∧ l.length ≤ reachBytes ∧ ∀ c ∈ l, FitsA e c := by rwa [shFits] at h
theorem lift_list {α β : Type} {p : α → Prop} {f : α → β} : ∀ {l : List β}, (∀ c ∈ l, ∃ x, p x ∧ c = f x) → ∃ xs : List α, (∀ x ∈ xs, p x) ∧ l = xs.map f
  | [], _ => ⟨[], by simp, rfl⟩
  | c :: l, h => by
    obtain ⟨x, hx, rfl⟩ := h c (by simp)
    obtain ⟨xs, h1, rfl⟩ := lift_list (l := l) fun c hc => h c (by simp [hc])
    exact ⟨x :: xs, by simpa using ⟨hx, h1⟩, rfl⟩
theorem fitsA_append : ∀ {a b : List Sh} {xs ys : List A}, FitsA a xs → FitsA b ys → FitsA (a ++ b) (xs ++ ys)
  | [], _, xs, ys, h, h' => by
    rw [FitsA] at h
    subst h
    exact h'
  | s :: a, b, xs, ys, h, h' => by
    rw [FitsA] at h
    obtain ⟨x, xs', rfl, h1, h2⟩ := h
    rw [List.cons_append, FitsA]
    exact ⟨x, xs' ++ ys, rfl, h1, fitsA_append h2 h'⟩
theorem fitsA_len : ∀ {a : List Sh} {xs : List A}, FitsA a xs → xs.length = a.length
  | [], xs, h => by rw [FitsA] at h; simp [h]
  | _ :: _, xs, h => by
    rw [FitsA] at h
    obtain ⟨x, xs', rfl, -, h2⟩ := h
    simp [fitsA_len h2]
def fieldsS (P : Program) (F : TypeId → Option (List Sh)) : List Field → Nat → Option (List Sh)
  | [], _ => some []
  | f :: fs, off => if f.offset = off then (F f.type).bind fun a => if a.length = P.cellsOf f.type then (fieldsS P F fs (off + a.length)).map (a ++ ·) else none else none
def flatS (P : Program) : Nat → TypeId → Option (List Sh)
  | 0, _ => none
  | n + 1, t =>
    match P.underlying t with
    | some .bool => some [.sc .bool]
    | some (.int k) => some [.sc (.int k)]
    | some .string => some [.sc .str]
    | some (.slice e) => (flatS P n e).bind fun a => if (a.length = P.cellsOf e ∧ 0 < a.length) ∧ 0 < P.bytesOf e then some [.sl a] else none
    | some (.struct fs) => (fieldsS P (flatS P n) fs.toList 0).bind fun ks => if ks.length = P.cellsOf t then some ks else none
    | some (.array k e) => (flatS P n e).bind fun a => if a.length = P.cellsOf e ∧ k * a.length = P.cellsOf t then some (List.replicate k a).flatten else none
    | _ => none
section
variable {H : Type} {enc : TypeId × Value → H} {P : Program} {w : World} {base : Nat} {spare : Nat → Bool} {held : Bool}
def Light (P : Program) (t : TypeId) (d : DataW H) : Prop := ∀ n ∈ d.weights P t, n ≤ reachBytes
theorem weights_mem_all : ∀ {ds : List (DataW H)} {j : Nat} {d : DataW H} {e : TypeId}, ds[j]? = some d → ∀ n ∈ d.weights P e, n ∈ DataW.weightsAll P e ds
  | d0 :: ds, 0, d, e, hd, n, hn => by
    simp only [List.getElem?_cons_zero, Option.some.injEq] at hd
    subst hd
    simp only [DataW.weightsAll, List.mem_append]
    exact Or.inl hn
  | d0 :: ds, j + 1, d, e, hd, n, hn => by
    simp only [List.getElem?_cons_succ] at hd
    simp only [DataW.weightsAll, List.mem_append]
    exact Or.inr (weights_mem_all hd n hn)
  | [], _, _, _, hd, _, _ => by simp at hd
def Reads (w : World) (ks : List Sh) (cs : List Value) : Prop := ∃ l, FitsA ks l ∧ RL [] (fun _ => False) w l cs
theorem Reads.append {a b : List Sh} {xs ys : List Value} (h : Reads w a xs) (h' : Reads w b ys) : Reads w (a ++ b) (xs ++ ys) := by
  obtain ⟨l, h1, h2⟩ := h
  obtain ⟨l', h3, h4⟩ := h'
  exact ⟨l ++ l', fitsA_append h1 h3, RL.append h2 h4⟩
theorem Reads.nil : Reads w [] [] := ⟨[], by rw [FitsA], RL.nil⟩
theorem Reads.one {s : Sc} {v : Value} (h : s.fits v) : Reads w [.sc s] [v] := by
  refine ⟨[.v v], ?_, RL.cons (by rw [R]) RL.nil⟩
  rw [FitsA]
  refine ⟨_, _, rfl, ?_, by rw [FitsA]⟩
  rw [shFits]
  exact ⟨v, rfl, h⟩
theorem fields_reads {F : TypeId → Option (List Sh)} {n : Nat} {cs : List Value} (ih : ∀ t ks, F t = some ks → ∀ (cs : List Value) (x : DataW H × List MemPlace), DataW.trod enc P w base spare held n t cs = some x → Light P t x.1 → Reads w ks cs) :
    ∀ (fs : List Field) (off : Nat) (ks : List Sh), fieldsS P F fs off = some ks → (∀ f ∈ fs, ∃ x, DataW.trod enc P w base spare held n f.type ((cs.drop f.offset).take (P.cellsOf f.type)) = some x ∧ Light P f.type x.1) → cs.length = off + ks.length → Reads w ks (cs.drop off)
  | [], off, ks, h, _, hl => by
    simp only [fieldsS, Option.some.injEq] at h
    subst h
    rw [List.drop_eq_nil_of_le (by simp at hl; omega)]
    exact Reads.nil
  | f :: fs, off, ks, h, hx, hl => by
    simp only [fieldsS] at h
    split at h
    · rename_i ho
      obtain ⟨a, ha, h⟩ := Option.bind_eq_some_iff.1 h
      split at h
      · rename_i hal
        obtain ⟨r, hr, rfl⟩ := Option.map_eq_some_iff.1 h
        obtain ⟨x, hx0, hx1⟩ := hx f (.head _)
        have h1 := ih f.type a ha _ _ hx0 hx1
        have h2 := fields_reads ih fs (off + a.length) r hr (fun g hg => hx g (.tail _ hg)) (by rw [hl]; simp; omega)
        have e : cs.drop off = (cs.drop off).take a.length ++ cs.drop (off + a.length) := by
          rw [← List.drop_drop, List.take_append_drop]
        rw [e]
        rw [ho, ← hal] at h1
        exact h1.append h2
      · cases h
    · cases h
theorem rep_reads {a : List Sh} {cs : List Value} : ∀ (k off : Nat), (∀ i, i < k → Reads w a ((cs.drop (off + i * a.length)).take a.length)) → cs.length = off + k * a.length → Reads w (List.replicate k a).flatten (cs.drop off)
  | 0, off, _, hl => by
    rw [List.drop_eq_nil_of_le (by simp at hl; omega)]
    exact Reads.nil
  | k + 1, off, h, hl => by
    have h0 := h 0 (by omega)
    have h1 := rep_reads k (off + a.length) (fun i hi => by have := h (i + 1) (by omega); rwa [show off + a.length + i * a.length = off + (i + 1) * a.length by rw [Nat.add_mul]; omega]) (by rw [hl, Nat.add_mul]; omega)
    have e : cs.drop off = (cs.drop off).take a.length ++ cs.drop (off + a.length) := by
      rw [← List.drop_drop, List.take_append_drop]
    rw [e, List.replicate_succ, List.flatten_cons]
    simp only [Nat.zero_mul, Nat.add_zero] at h0
    exact h0.append h1
theorem cells_get {b0 : Nat} {a : Addr} {n : Nat} {cs : List Value} (h : w.cells? b0 a n = some cs) : cs.length = n ∧ ∀ i, i < n → w.cell? (a.add i) = cs[i]? := by
  unfold World.cells? at h
  split at h
  · exact ⟨by simpa using mapM_some_length h, fun i hi => mapM_some_get h i i (by simp [hi])⟩
  · cases h
theorem elems_reads {a : List Sh} {ad : Addr} (ha : 0 < a.length) : ∀ (len : Nat), (∀ i, i < len → ∃ cs, w.cells? base (ad.add (i * a.length)) a.length = some cs ∧ Reads w a cs) →
    ∃ (l : List (List A)) (xs : List Value), l.length = len ∧ (∀ c ∈ l, FitsA a c) ∧ RL [] (fun _ => False) w l.flatten xs ∧ xs.length = len * a.length ∧ ∀ i, i < len * a.length → w.cell? ((ad.add (i / a.length * a.length)).add (i % a.length)) = xs[i]?
  | 0, _ => ⟨[], [], rfl, by simp, RL.nil, by simp, by simp⟩
  | len + 1, h => by
    obtain ⟨l, xs, h1, h2, h3, h4, h5⟩ := elems_reads ha len fun i hi => h i (by omega)
    obtain ⟨cs, h6, c, h7, h8⟩ := h len (by omega)
    obtain ⟨h9, h10⟩ := cells_get h6
    refine ⟨l ++ [c], xs ++ cs, by simp [h1], ?_, ?_, ?_, ?_⟩
    · intro d hd
      rcases List.mem_append.1 hd with hd | hd
      · exact h2 d hd
      · rw [List.mem_singleton.1 hd]; exact h7
    · rw [List.flatten_append]
      simpa using RL.append h3 h8
    · simp [h4, h9, Nat.add_mul]
    · intro i hi
      rcases Nat.lt_or_ge i (len * a.length) with hlt | hge
      · rw [h5 i hlt, List.getElem?_append_left (by omega)]
      · have e1 : i / a.length = len := by
          rw [Nat.add_mul] at hi
          apply Nat.div_eq_of_lt_le
          · exact hge
          · rw [Nat.add_mul]; omega
        have e2 : i % a.length = i - len * a.length := by
          have := Nat.div_add_mod i a.length
          rw [e1, Nat.mul_comm] at this
          omega
        rw [e1, e2, h10 _ (by rw [Nat.add_mul] at hi; omega), List.getElem?_append_right (by omega), h4]
theorem flat_reads : ∀ (m : Nat) (t : TypeId) (ks : List Sh), flatS P m t = some ks → ∀ (fuel : Nat) (cs : List Value) (x : DataW H × List MemPlace), DataW.trod enc P w base spare held fuel t cs = some x → Light P t x.1 → Reads w ks cs
  | 0, _, _, h, _, _, _, _, _ => by simp [flatS] at h
  | m + 1, t, ks, h, fuel, cs, x, hx, hlight => by
    unfold flatS at h
    split at h
    · rename_i ht
      obtain ⟨b, rfl, -⟩ := DataW.trod_bool ht hx
      obtain rfl := Option.some.inj h
      exact Reads.one ⟨b, rfl⟩
    · rename_i k ht
      obtain ⟨y, rfl, -, hw⟩ := DataW.trod_int ht hx
      obtain rfl := Option.some.inj h
      exact Reads.one ⟨y, rfl, hw⟩
    · rename_i ht
      obtain ⟨s, rfl, -, hs⟩ := DataW.trod_string ht hx
      obtain rfl := Option.some.inj h
      exact Reads.one ⟨s, rfl, hs⟩
    · rename_i e ht
      obtain ⟨a, ha, h⟩ := Option.bind_eq_some_iff.1 h
      split at h
      · rename_i hlen0
        obtain ⟨hlen, hbytes⟩ := hlen0
        obtain rfl := Option.some.inj h
        have fin : ∀ (l : List (List A)) (v : Value), l.length ≤ reachBytes → (∀ c ∈ l, FitsA a c) → R [] (fun _ => False) w (.sl l.length l.flatten) v → Reads w [.sl a] [v] := fun l v h1 h2 h3 => by
          refine ⟨[.sl l.length l.flatten], ?_, RL.cons h3 RL.nil⟩
          rw [FitsA]
          refine ⟨_, _, rfl, ?_, by rw [FitsA]⟩
          rw [shFits]
          exact ⟨l, rfl, h1, h2⟩
        rcases DataW.trod_slice ht hx with ⟨rfl, -⟩ | ⟨ad, len, cap, elems, rest, n, rfl, rfl, hxd, hb, hl, hc, hel, hall, -⟩
        · refine fin [] _ (Nat.zero_le _) (by simp) ?_
          rw [R]
          exact .inl ⟨rfl, rfl, _, _, rfl⟩
        · have hroom : len ≤ reachBytes := by
            have := hlight ((elems.length + rest.length) * P.bytesOf e) (by simp [hxd, DataW.weights, ht])
            have h2 : (elems.length + rest.length) * 1 ≤ (elems.length + rest.length) * P.bytesOf e := Nat.mul_le_mul_left _ hbytes
            omega
          have hel' : ∀ i, i < len → ∀ y, elems[i]? = some y → Light P e y.1 := fun i hi y hy k hk => by
            refine hlight k ?_
            simp only [hxd, DataW.weights, ht]
            refine List.mem_cons_of_mem _ (List.mem_append_left _ (weights_mem_all (j := i) (d := y.1) ?_ k hk))
            rw [List.getElem?_map, hy]
            rfl
          have hele : ∀ i, i < len → ∃ cs, w.cells? base (ad.add (i * a.length)) a.length = some cs ∧ Reads w a cs := fun i hi => by
            obtain ⟨y, hy⟩ : ∃ y, elems[i]? = some y := ⟨_, List.getElem?_eq_getElem (by omega)⟩
            have h1 := (hall i hi).trans hy
            rw [← hlen.1] at h1
            obtain ⟨cs, h2, h3⟩ := Option.bind_eq_some_iff.1 h1
            exact ⟨cs, h2, flat_reads m e a ha n cs _ h3 (hel' i hi y hy)⟩
          obtain ⟨l, xs, h1, h2, h3, h4, h5⟩ := elems_reads hlen.2 len hele
          refine fin l _ (by omega) h2 ?_
          rw [R]
          rcases Nat.eq_zero_or_pos len with rfl | hpos
          · left
            have hl0 := List.eq_nil_of_length_eq_zero h1
            subst hl0
            exact ⟨rfl, rfl, _, _, rfl⟩
          · right
            have h0 := h5 0 (Nat.mul_pos hpos hlen.2)
            have hx0 : ∃ y, xs[0]? = some y := ⟨_, List.getElem?_eq_getElem (by rw [h4]; exact Nat.mul_pos hpos hlen.2)⟩
            obtain ⟨y0, hx0⟩ := hx0
            rw [hx0] at h0
            have had : (ad.add (0 / a.length * a.length)).add (0 % a.length) = ad := by simp [Addr.add]
            rw [had] at h0
            have hsp : ad.spot = none := by
              unfold World.cell? at h0
              split at h0
              · split at h0
                · cases h0
                · rename_i hs
                  simpa using hs
              · cases h0
            obtain ⟨g, off, sp⟩ := ad
            simp only at hsp
            subst hsp
            refine ⟨g, off, cap, xs, by rw [h1], by omega, World.block_lt_of_cell? w ⟨g, off, none⟩ h0, fun h => h, h3, fun i x hi => ?_⟩
            have hil : i < len * a.length := by
              rw [← h4]
              exact (List.getElem?_eq_some_iff.1 hi).1
            rw [← hi, ← h5 i hil]
            congr 1
            have := Nat.div_add_mod i a.length
            rw [Nat.mul_comm] at this
            unfold Addr.add
            split <;> split <;> simp_all <;> omega
      · cases h
    · rename_i fs ht
      obtain ⟨ks', hk, h⟩ := Option.bind_eq_some_iff.1 h
      split at h
      · rename_i hlen
        obtain rfl := Option.some.inj h
        obtain ⟨xs, n, -, hxd, hcl, hxl, hf⟩ := DataW.trod_struct ht hx
        have := fields_reads (P := P) (cs := cs) (n := n) (fun t ks hks cs x hx hy => flat_reads m t ks hks n cs x hx hy) fs.toList 0 ks' hk (fun f hfm => by
          obtain ⟨i, hi⟩ := List.mem_iff_getElem?.1 hfm
          have hi' : fs[i]? = some f := by simpa using hi
          have hlt := (Array.getElem?_eq_some_iff.1 hi').1
          obtain ⟨y, hy⟩ : ∃ y, xs[i]? = some y := ⟨_, List.getElem?_eq_getElem (by omega)⟩
          refine ⟨y, (hf i f hi').trans hy, fun k hk => hlight k ?_⟩
          simp only [hxd, DataW.weights, ht]
          refine DataW.weights_mem_each (j := i) (t := f.type) (d := y.1) ?_ ?_ k hk
          · rw [List.getElem?_map, hi]
            rfl
          · rw [List.getElem?_map, hy]
            rfl) (by omega)
        simpa using this
      · cases h
    · rename_i k e ht
      obtain ⟨a, ha, h⟩ := Option.bind_eq_some_iff.1 h
      split at h
      · rename_i hlen
        obtain rfl := Option.some.inj h
        obtain ⟨xs, n, -, hxd, hcl, hxl, hf⟩ := DataW.trod_array ht hx
        have := rep_reads (a := a) (cs := cs) k 0 (fun i hi => by
          obtain ⟨y, hy⟩ : ∃ y, xs[i]? = some y := ⟨_, List.getElem?_eq_getElem (by omega)⟩
          have h1 := (hf i hi).trans hy
          have := flat_reads m e a ha n _ _ h1 (fun k hk => hlight k (by
            simp only [hxd, DataW.weights, ht]
            refine weights_mem_all (j := i) (d := y.1) ?_ k hk
            rw [List.getElem?_map, hy]
            rfl))
          rwa [hlen.1, Nat.zero_add]) (by omega)
        simpa using this
      · cases h
    · cases h
def flatO (P : Program) (op : TypeId → Bool) : Nat → TypeId → Option (List Sh)
  | 0, _ => none
  | n + 1, t =>
    match P.underlying t with
    | some .bool => some [.sc .bool]
    | some (.int k) => some [.sc (.int k)]
    | some .string => some [.sc .str]
    | some (.slice e) => bif op e then flatS P (n + 1) t else some [.any]
    | some (.struct fs) => (fieldsS P (flatO P op n) fs.toList 0).bind fun ks => if ks.length = P.cellsOf t then some ks else none
    | some (.array k e) => (flatO P op n e).bind fun a => if a.length = P.cellsOf e ∧ k * a.length = P.cellsOf t then some (List.replicate k a).flatten else none
    | _ => none
theorem flat_readsO {op : TypeId → Bool} : ∀ (m : Nat) (t : TypeId) (ks : List Sh), flatO P op m t = some ks → ∀ (fuel : Nat) (cs : List Value) (x : DataW H × List MemPlace), DataW.trod enc P w base spare held fuel t cs = some x → Light P t x.1 → Reads w ks cs
  | 0, _, _, h, _, _, _, _, _ => by simp [flatO] at h
  | m + 1, t, ks, h, fuel, cs, x, hx, hlight => by
    unfold flatO at h
    split at h
    · rename_i ht
      obtain ⟨b, rfl, -⟩ := DataW.trod_bool ht hx
      obtain rfl := Option.some.inj h
      exact Reads.one ⟨b, rfl⟩
    · rename_i k ht
      obtain ⟨y, rfl, -, hw⟩ := DataW.trod_int ht hx
      obtain rfl := Option.some.inj h
      exact Reads.one ⟨y, rfl, hw⟩
    · rename_i ht
      obtain ⟨s, rfl, -, hs⟩ := DataW.trod_string ht hx
      obtain rfl := Option.some.inj h
      exact Reads.one ⟨s, rfl, hs⟩
    · rename_i e ht
      cases ho : op e with
      | true =>
        rw [ho] at h
        exact flat_reads (m + 1) t ks h fuel cs x hx hlight
      | false =>
        rw [ho] at h
        obtain rfl := Option.some.inj h
        have fin : ∀ v : Value, oneV v = true → Reads w [.any] [v] := fun v hv => by
          refine ⟨[.v v], ?_, RL.cons (by rw [R]) RL.nil⟩
          rw [FitsA]
          refine ⟨_, _, rfl, ?_, by rw [FitsA]⟩
          rw [shFits]
          exact ⟨v, rfl, hv⟩
        rcases DataW.trod_slice ht hx with ⟨rfl, -⟩ | ⟨ad, len, cap, elems, rest, n, rfl, rfl, hxd, hb, hl, hc, hel, hall, -⟩
        · exact fin _ rfl
        · exact fin _ rfl
    · rename_i fs ht
      obtain ⟨ks', hk, h⟩ := Option.bind_eq_some_iff.1 h
      split at h
      · rename_i hlen
        obtain rfl := Option.some.inj h
        obtain ⟨xs, n, -, hxd, hcl, hxl, hf⟩ := DataW.trod_struct ht hx
        have := fields_reads (P := P) (cs := cs) (n := n) (fun t ks hks cs x hx hy => flat_readsO m t ks hks n cs x hx hy) fs.toList 0 ks' hk (fun f hfm => by
          obtain ⟨i, hi⟩ := List.mem_iff_getElem?.1 hfm
          have hi' : fs[i]? = some f := by simpa using hi
          have hlt := (Array.getElem?_eq_some_iff.1 hi').1
          obtain ⟨y, hy⟩ : ∃ y, xs[i]? = some y := ⟨_, List.getElem?_eq_getElem (by omega)⟩
          refine ⟨y, (hf i f hi').trans hy, fun k hk => hlight k ?_⟩
          simp only [hxd, DataW.weights, ht]
          refine DataW.weights_mem_each (j := i) (t := f.type) (d := y.1) ?_ ?_ k hk
          · rw [List.getElem?_map, hi]
            rfl
          · rw [List.getElem?_map, hy]
            rfl) (by omega)
        simpa using this
      · cases h
    · rename_i k e ht
      obtain ⟨a, ha, h⟩ := Option.bind_eq_some_iff.1 h
      split at h
      · rename_i hlen
        obtain rfl := Option.some.inj h
        obtain ⟨xs, n, -, hxd, hcl, hxl, hf⟩ := DataW.trod_array ht hx
        have := rep_reads (a := a) (cs := cs) k 0 (fun i hi => by
          obtain ⟨y, hy⟩ : ∃ y, xs[i]? = some y := ⟨_, List.getElem?_eq_getElem (by omega)⟩
          have h1 := (hf i hi).trans hy
          have := flat_readsO m e a ha n _ _ h1 (fun k hk => hlight k (by
            simp only [hxd, DataW.weights, ht]
            refine weights_mem_all (j := i) (d := y.1) ?_ k hk
            rw [List.getElem?_map, hy]
            rfl))
          rwa [hlen.1, Nat.zero_add]) (by omega)
        simpa using this
      · cases h
    · cases h
theorem open_aggO {op : TypeId → Bool} {t : TypeId} {v : Value} {d : DataW H} {p : List MemPlace} {ks : List Sh} (m : Nat) (hf : flatO P op m t = some ks) (hv : ∃ cs, v = .agg cs ∧ cs.size = P.cellsOf t) (h : DataW.Trod enc P w base spare held t v d p) (hd : Light P t d) : ∃ l, FitsA ks l ∧ R [] (fun _ => False) w (.agg l) v := by
  obtain ⟨cs, rfl, -⟩ := hv
  obtain ⟨fuel, hx⟩ := h
  obtain ⟨l, h1, h2⟩ := flat_readsO m t ks hf fuel _ _ hx hd
  refine ⟨l, h1, ?_⟩
  rw [R]
  exact ⟨cs.toList, by simp, by simpa [Value.cells] using h2⟩
theorem open_one {t : TypeId} {v : Value} {d : DataW H} {p : List MemPlace} {k : Sh} (m : Nat) (hf : flatS P m t = some [k]) (hv : ∀ cs, v ≠ .agg cs) (h : DataW.Trod enc P w base spare held t v d p) (hd : Light P t d) : ∃ a, shFits k a ∧ R [] (fun _ => False) w a v := by
  obtain ⟨fuel, hx⟩ := h
  obtain ⟨l, h1, h2⟩ := flat_reads m t _ hf fuel _ _ hx hd
  obtain ⟨a, l', rfl, h3, h4⟩ := fitsA_cons h1
  obtain rfl := fitsA_nil h4
  have hc : v.cells.toList = [v] := by
    cases v <;> first
      | rfl
      | exact absurd rfl (hv _)
  rw [hc, RL] at h2
  obtain ⟨x, xs, h5, h6, -⟩ := h2
  injection h5 with h7 _
  subst h7
  exact ⟨a, h3, h6⟩
theorem open_agg {t : TypeId} {v : Value} {d : DataW H} {p : List MemPlace} {ks : List Sh} (m : Nat) (hf : flatS P m t = some ks) (hv : ∃ cs, v = .agg cs ∧ cs.size = P.cellsOf t) (h : DataW.Trod enc P w base spare held t v d p) (hd : Light P t d) : ∃ l, FitsA ks l ∧ R [] (fun _ => False) w (.agg l) v := by
  obtain ⟨cs, rfl, -⟩ := hv
  obtain ⟨fuel, hx⟩ := h
  obtain ⟨l, h1, h2⟩ := flat_reads m t ks hf fuel _ _ hx hd
  refine ⟨l, h1, ?_⟩
  rw [R]
  exact ⟨cs.toList, by simp, by simpa [Value.cells] using h2⟩
theorem notAgg {r : Reach} {b0 : Nat} {t : TypeId} {v : Value} (h : Value.okWide P w r b0 t v) (hd : (match P.underlying t with | some .bool | some (.int _) | some .string | some (.slice _) => true | _ => false) = true) : ∀ cs, v ≠ .agg cs := by
  rintro cs rfl
  unfold Value.okWide at h
  split at hd
  · rename_i hu
    simp [hu, Cell.okWide, Cell.ok] at h
  · rename_i hu
    simp [hu, Cell.okWide, Cell.ok] at h
  · rename_i hu
    simp [hu, Cell.okWide, Cell.ok] at h
  · rename_i hu
    simp [hu, Cell.okWide, Cell.ok] at h
  · cases hd
end
end Go.Proofs.YtnhknhniemfnjaaGreatDoor
namespace Go.Proofs.YtnhknhniemfnjaaGreatDoor
open Go Go.RowKit Go.Proofs.YtnhknhniemfnjaaGreatDoor.Ev
open Go.ChangeShapes Go.WideShapes Go.ChangeAt
def untrodA (F : DataW Unit → Option (List Value)) (c : Nat) : List (DataW Unit) → Option (List Value)
  | [] => some []
  | d :: ds => match F d, untrodA F c ds with
    | some a, some r => if a.length = c then some (a ++ r) else none
    | _, _ => none
def untrodF (P : Program) (F : TypeId → DataW Unit → Option (List Value)) : List Field → List (DataW Unit) → Nat → Option (List Value)
  | [], [], _ => some []
  | f :: fs, d :: ds, off => match F f.type d, untrodF P F fs ds (off + P.cellsOf f.type) with
    | some a, some r => if a.length = P.cellsOf f.type ∧ f.offset = off then some (a ++ r) else none
    | _, _ => none
  | _, _, _ => none
def untrod (P : Program) : Nat → TypeId → DataW Unit → Option (List Value)
  | 0, _, _ => none
  | n + 1, t, d => match P.underlying t with
    | some .bool => match d with
      | .lit (.bool b) => some [.bool b]
      | _ => none
    | some (.int k) => match d with
      | .lit (.int k' z) => if k = k' then some [.int k z] else none
      | _ => none
    | some .string => match d with
      | .lit (.string s) => some [.string ⟨s.toArray⟩]
      | _ => none
    | some (.array _ e) => match d with
      | .agg ps => (untrodA (untrod P n e) (P.cellsOf e) ps).bind fun vs => if vs.length = P.cellsOf t then some vs else none
      | _ => none
    | some (.struct fs) => match d with
      | .agg ps => (untrodF P (untrod P n) fs.toList ps 0).bind fun vs => if vs.length = P.cellsOf t then some vs else none
      | _ => none
    | _ => none
theorem untrodA_ok {F : DataW Unit → Option (List Value)} {c : Nat} {cs : List Value} : ∀ (ps : List (DataW Unit)) (off : Nat) (vs : List Value), untrodA F c ps = some vs → (∀ i d, ps[i]? = some d → ∀ a, F d = some a → (cs.drop (off + i * c)).take c = a) → cs.length = off + vs.length → cs.drop off = vs
  | [], off, vs, h, _, hl => by
    simp only [untrodA, Option.some.injEq] at h
    subst h
    exact List.drop_eq_nil_of_le (by simp at hl; omega)
  | d :: ds, off, vs, h, hx, hl => by
    simp only [untrodA] at h
    split at h
    · rename_i a r ha hr
      split at h
      · rename_i hac
        obtain rfl := Option.some.inj h
        have h1 := hx 0 d rfl a ha
        simp only [Nat.zero_mul, Nat.add_zero] at h1
        have h2 := untrodA_ok ds (off + c) r hr (fun i d' hd' a' ha' => by
          have := hx (i + 1) d' (by simpa using hd') a' ha'
          rwa [show off + (i + 1) * c = off + c + i * c by rw [Nat.add_mul]; omega] at this) (by rw [hl]; simp; omega)
        have e : cs.drop off = (cs.drop off).take c ++ cs.drop (off + c) := by rw [← List.drop_drop, List.take_append_drop]
        rw [e, h1, h2]
      · cases h
    · cases h
theorem untrodF_ok {P : Program} {F : TypeId → DataW Unit → Option (List Value)} {cs : List Value} : ∀ (fs : List Field) (ps : List (DataW Unit)) (off : Nat) (vs : List Value), untrodF P F fs ps off = some vs → (∀ (i : Nat) (f : Field) d, fs[i]? = some f → ps[i]? = some d → ∀ a, F f.type d = some a → (cs.drop f.offset).take (P.cellsOf f.type) = a) → cs.length = off + vs.length → cs.drop off = vs
  | [], [], off, vs, h, _, hl => by
    simp only [untrodF, Option.some.injEq] at h
    subst h
    exact List.drop_eq_nil_of_le (by simp at hl; omega)
  | f :: fs, d :: ds, off, vs, h, hx, hl => by
    simp only [untrodF] at h
    split at h
    · rename_i a r ha hr
      split at h
      · rename_i hac
        obtain rfl := Option.some.inj h
        have h1 := hx 0 f d rfl rfl a ha
        have h2 := untrodF_ok fs ds (off + P.cellsOf f.type) r hr (fun i f' d' hf' hd' a' ha' => hx (i + 1) f' d' (by simpa using hf') (by simpa using hd') a' ha') (by rw [hl]; simp; omega)
        have e : cs.drop off = (cs.drop off).take (P.cellsOf f.type) ++ cs.drop (off + P.cellsOf f.type) := by rw [← List.drop_drop, List.take_append_drop]
        rw [e, ← hac.2, h1, hac.2, h2]
      · cases h
    · cases h
  | [], _ :: _, _, _, h, _, _ => by simp [untrodF] at h
  | _ :: _, [], _, _, h, _, _ => by simp [untrodF] at h
section
variable {P : Program} {w : World} {base : Nat} {spare : Nat → Bool} {held : Bool}
theorem untrod_ok : ∀ (m : Nat) (t : TypeId) (d : DataW Unit) (vs : List Value), untrod P m t d = some vs → ∀ (fuel : Nat) (cs : List Value) (p : List MemPlace), DataW.trod (fun _ => ()) P w base spare held fuel t cs = some (d, p) → cs = vs
  | 0, _, _, _, h, _, _, _, _ => by simp [untrod] at h
  | m + 1, t, d, vs, h, fuel, cs, p, hx => by
    unfold untrod at h
    split at h
    · rename_i ht
      obtain ⟨b, rfl, hd⟩ := DataW.trod_bool ht hx
      simp only [Prod.mk.injEq] at hd
      rw [hd.1] at h
      exact Option.some.inj h
    · rename_i k ht
      obtain ⟨y, rfl, hd, hw⟩ := DataW.trod_int ht hx
      simp only [Prod.mk.injEq] at hd
      rw [hd.1] at h
      simpa using h
    · rename_i ht
      obtain ⟨s, rfl, hd, hs⟩ := DataW.trod_string ht hx
      simp only [Prod.mk.injEq] at hd
      rw [hd.1] at h
      have := Option.some.inj h
      rw [← this]
    · rename_i k e ht
      obtain ⟨xs, n, -, hxd, hcl, hxl, hf⟩ := DataW.trod_array ht hx
      simp only [Prod.mk.injEq] at hxd
      rw [hxd.1] at h
      obtain ⟨vs', hk, h⟩ := Option.bind_eq_some_iff.1 h
      split at h
      · rename_i hlen
        obtain rfl := Option.some.inj h
        have := untrodA_ok (cs := cs) (xs.map (·.1)) 0 vs' hk (fun i d' hd' a ha => by
          rw [List.getElem?_map] at hd'
          obtain ⟨y, hy, rfl⟩ := Option.map_eq_some_iff.1 hd'
          have hi : i < k := by
            rw [← hxl]
            exact (List.getElem?_eq_some_iff.1 hy).1
          have h1 := (hf i hi).trans hy
          rw [Nat.zero_add]
          exact untrod_ok m e y.1 a ha n _ y.2 h1) (by omega)
        simpa using this
      · cases h
    · rename_i fs ht
      obtain ⟨xs, n, -, hxd, hcl, hxl, hf⟩ := DataW.trod_struct ht hx
      simp only [Prod.mk.injEq] at hxd
      rw [hxd.1] at h
      obtain ⟨vs', hk, h⟩ := Option.bind_eq_some_iff.1 h
      split at h
      · rename_i hlen
        obtain rfl := Option.some.inj h
        have := untrodF_ok (P := P) (cs := cs) fs.toList (xs.map (·.1)) 0 vs' hk (fun i f d' hf' hd' a ha => by
          rw [List.getElem?_map] at hd'
          obtain ⟨y, hy, rfl⟩ := Option.map_eq_some_iff.1 hd'
          have h1 := (hf i f (by simpa using hf')).trans hy
          exact untrod_ok m f.type y.1 a ha n _ y.2 h1) (by omega)
        simpa using this
      · cases h
    · cases h
end
theorem laidVars_mem {P : Program} {w : World} : ∀ {l : List (String × DataW Unit)} {ps : List MemPlace}, DataW.LaidVars P w l ps → ∀ {n : String} {d : DataW Unit}, (n, d) ∈ l → ∃ g t cs fuel p, P.globalNamed n = some g ∧ (P.globals[g]?).map (·.type) = some t ∧ w.var? P n = some cs ∧ DataW.trod (fun _ => ()) P w 0 (fun _ => true) false fuel t cs.toList = some (d, p)
  | [], _, _, _, _, hm => by cases hm
  | x :: l, ps, h, n, d, hm => by
    obtain ⟨n0, d0⟩ := x
    obtain ⟨g, t, cs, fuel, p, q, h1, h2, h3, h4, h5, -⟩ := h
    rcases List.mem_cons.1 hm with he | hm'
    · simp only [Prod.mk.injEq] at he
      obtain ⟨rfl, rfl⟩ := he
      exact ⟨g, t, cs, fuel, p, h1, h2, h3, h4⟩
    · exact laidVars_mem h5 hm'
def glIn (P : Program) (laid : List (String × DataW Unit)) (x : Nat × List Value) : Bool :=
  !x.2.isEmpty && laid.any fun y => (match P.globalNamed y.1 with
    | some g => Nat.beq g x.1
    | none => false) && (match (P.globals[x.1]?).map (·.type) with
      | some t => match untrod P 8 t y.2 with
        | some vs => eqL (vs.map .v) (x.2.map .v)
        | none => false
      | none => false)
theorem map_v_inj : ∀ {a b : List Value}, a.map A.v = b.map A.v → a = b
  | [], [], _ => rfl
  | x :: a, y :: b, h => by
    simp only [List.map_cons, List.cons.injEq, A.v.injEq] at h
    rw [h.1, map_v_inj h.2]
  | [], _ :: _, h => by simp at h
  | _ :: _, [], h => by simp at h
theorem gl_of_laid {P : Program} {laid : List (String × DataW Unit)} {W : World} {gl : List (Nat × List Value)} {lk : Nat → List Nat → List Nat → M → M → Loop → Prop} (hp : (laid.filter fun x => x.2.handleName?.isSome) = []) (h : laidMetH P laid W) (hg : gl.all (glIn P laid) = true) : Ev.Gl ⟨lookL gl, lk⟩ (fun _ => False) W := by
  have h' : laidMet P laid W := by
    unfold laidMetH at h
    rw [hp] at h
    exact h
  obtain ⟨ps, hv, -⟩ := h'
  intro g xs hx
  have hm := lookL_mem hx
  have hb := List.all_eq_true.1 hg _ hm
  unfold glIn at hb
  simp only [Bool.and_eq_true, Bool.not_eq_true'] at hb
  obtain ⟨hne, hb⟩ := hb
  obtain ⟨⟨n, d⟩, hy, hb⟩ := List.any_eq_true.1 hb
  simp only [Bool.and_eq_true] at hb
  obtain ⟨hb1, hb2⟩ := hb
  obtain ⟨g', t, cs, fuel, p, h1, h2, h3, h4⟩ := laidVars_mem hv hy
  rw [h1] at hb1
  obtain rfl := Nat.eq_of_beq_eq_true hb1
  rw [h2] at hb2
  simp only at hb2
  split at hb2
  · rename_i vs hu
    have h5 := map_v_inj (eqL_eq _ _ hb2)
    have h6 := untrod_ok 8 t d vs hu fuel _ _ h4
    have hlie : Lies W g' 0 xs := fun i x hi => by
      have h7 := World.var?_cell h1 h3 i
      have e : cs[i]? = some x := by
        rw [← h5, ← h6] at hi
        simpa using hi
      rw [Nat.zero_add]
      rw [h7, e]
    refine ⟨fun h => h, ?_, hlie⟩
    cases xs with
    | nil => simp at hne
    | cons x xs => exact World.block_lt_of_cell? W ⟨g', 0, none⟩ (hlie 0 x rfl)
  · cases hb2
end Go.Proofs.YtnhknhniemfnjaaGreatDoor
namespace Go.Proofs.YtnhknhniemfnjaaGreatDoor.Ev
open Go Go.RowKit Go.Proofs.YtnhknhniemfnjaaGreatDoor.Ev
theorem sh_fit {s : Sh} {a : A} (h : shFits s a) : one a = true ∧ shut a = true ∧ ∀ (H : Heap) (n : Nat), freeze H (n + 1) a = some a := by
  cases s with
  | sc s =>
    rw [shFits] at h
    obtain ⟨x, rfl, hx⟩ := h
    cases s with
    | int k =>
      obtain ⟨z, rfl, -⟩ := hx
      exact ⟨rfl, rfl, fun _ _ => rfl⟩
    | bool =>
      obtain ⟨z, rfl⟩ := hx
      exact ⟨rfl, rfl, fun _ _ => rfl⟩
    | str =>
      obtain ⟨z, rfl, -⟩ := hx
      exact ⟨rfl, rfl, fun _ _ => rfl⟩
  | sl e =>
    rw [shFits] at h
    obtain ⟨l, rfl, -⟩ := h
    exact ⟨rfl, rfl, fun _ _ => rfl⟩
  | any =>
    rw [shFits] at h
    obtain ⟨x, rfl, hx⟩ := h
    refine ⟨?_, rfl, fun _ _ => rfl⟩
    cases x <;> first
      | rfl
      | cases hx
theorem fitsA_all : ∀ {ks : List Sh} {l : List A}, FitsA ks l → ones l = true ∧ shut.shutL l = true ∧ ∀ (H : Heap) (n : Nat), mapO (freeze H (n + 1)) l = some l
  | [], l, h => by
    obtain rfl := fitsA_nil h
    exact ⟨rfl, rfl, fun _ _ => rfl⟩
  | s :: ks, l, h => by
    obtain ⟨a, l', rfl, h1, h2⟩ := fitsA_cons h
    obtain ⟨k1, k2, k3⟩ := sh_fit h1
    obtain ⟨k4, k5, k6⟩ := fitsA_all h2
    refine ⟨?_, ?_, fun H n => ?_⟩
    · simp only [ones, k1, k4, Bool.and_self]
    · simp only [shut.shutL, k2, k5, Bool.and_self]
    · simp only [mapO, k3, k6]
theorem fitsA_get : ∀ {ks : List Sh} {l : List A}, FitsA ks l → ∀ (i : Nat) (s : Sh), ks[i]? = some s → ∃ a, l[i]? = some a ∧ shFits s a
  | [], _, _, i, s, hs => by simp at hs
  | s0 :: ks, l, h, i, s, hs => by
    obtain ⟨a, l', rfl, h1, h2⟩ := fitsA_cons h
    cases i with
    | zero =>
      simp only [List.getElem?_cons_zero, Option.some.injEq] at hs
      subst hs
      exact ⟨a, rfl, h1⟩
    | succ i => simpa using fitsA_get h2 i s (by simpa using hs)
theorem eq_fit {s : Sh} {a : A} (h : shFits s a) (hs : ∀ e l n, s = .sl e → a = .sl n l → eqL l l = true) : eqA a a = true := by
  cases s with
  | sc s =>
    rw [shFits] at h
    obtain ⟨x, rfl, hx⟩ := h
    cases s with
    | int k =>
      obtain ⟨z, rfl, -⟩ := hx
      simp [eqA, eqV]
    | bool =>
      obtain ⟨z, rfl⟩ := hx
      simp [eqA, eqV]
    | str =>
      obtain ⟨z, rfl, -⟩ := hx
      simp only [eqA, eqV]
      exact beq_self_eq_true z.data
  | sl e =>
    have h' := h
    rw [shFits] at h
    obtain ⟨l, rfl, -⟩ := h
    simp only [eqA, Nat.beq_refl, Bool.true_and]
    exact hs e _ _ rfl rfl
  | any =>
    rw [shFits] at h
    obtain ⟨x, rfl, hx⟩ := h
    cases x <;> first
      | cases hx
      | skip
    rename_i p _ _
    cases p <;> simp [eqA, eqV]
theorem eq_fits : ∀ {ks : List Sh} {l : List A}, FitsA ks l → (∀ (i : Nat) e zs n, ks[i]? = some (.sl e) → l[i]? = some (.sl n zs) → eqL zs zs = true) → eqL l l = true
  | [], l, h, _ => by
    obtain rfl := fitsA_nil h
    rfl
  | s :: ks, l, h, hs => by
    obtain ⟨a, l', rfl, h1, h2⟩ := fitsA_cons h
    simp only [eqL, Bool.and_eq_true]
    exact ⟨eq_fit h1 fun e l n e1 e2 => hs 0 e l n (by simp [e1]) (by simp [e2]), eq_fits h2 fun i e zs n g1 g2 => hs (i + 1) e zs n (by simpa using g1) (by simpa using g2)⟩
end Go.Proofs.YtnhknhniemfnjaaGreatDoor.Ev
