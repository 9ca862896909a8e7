/- The frame of every law of this work: what a law's contract ('it returns true, and nothing that was there has changed') gives for its row; and a struct of five one-cell fields opened. -/
import Derived.Test.YtijpomemobgddaaGreatDoorRows
import Derived.WalkKit
import Derived.ProofKit
import Derived.OpenShut
import Derived.Lib.SmallJoins
import Derived.Deep.DeepHandedRow
import Derived.Lib.LaidTab
set_option linter.unusedSimpArgs false
set_option linter.unusedVariables false
namespace Go.Proofs.YtijpomemobgddaaGreatDoor
open Go.ChangeShapes Go.WideShapes Go.ChangeAt Go.RowKit Go.Joins Go.Deep

section
variable {H : Type} {enc : TypeId × Value → H} {P : Program}

/-- What was read of the arguments reads so behind a call that has changed nothing. -/
theorem trodAll_below {W W' : World} (hl : laidOutB P = true) (hb : Below W.heap.size W W') : ∀ (ts : List TypeId) (vs : List Value) (ds : List (DataW H)) (p : List MemPlace), ts.all (fun t => P.readableRec t && decide (t < P.types.size)) = true →
    DataW.TrodAll enc P W 0 (fun _ => true) true ts vs ds p → (∀ x ∈ p, x.block < W.heap.size) → DataW.TrodAll enc P W' 0 (fun b => decide (b < W.heap.size)) true ts vs ds p
  | [], [], [], _, _, h, _ => h
  | [], [], _ :: _, _, _, h, _ => h.elim
  | [], _ :: _, _, _, _, h, _ => h.elim
  | _ :: _, [], _, _, _, h, _ => h.elim
  | _ :: _, _ :: _, [], _, _, h, _ => h.elim
  | t :: ts, v :: vs, d :: ds, _, hr, ⟨p, q, h1, h2, e⟩, hlt => by
    subst e
    simp only [List.all_cons, Bool.and_eq_true, decide_eq_true_eq] at hr
    exact ⟨p, q, Below.trod hl hr.1.1 hr.1.2 h1 hb (fun x hx => hlt x (List.mem_append_left _ hx)), trodAll_below hl hb ts vs ds q (by simpa using hr.2) h2 (fun x hx => hlt x (List.mem_append_right _ hx)), rfl⟩

/-- A law's post, of its contract. -/
theorem law_post {f : Func} {s : ChangeSpec} {W W' : World} {args : Array Value} {ds gs : List (DataW H)} {before : List MemPlace} {tb : TypeId} (hl : laidOutB P = true) (hps : f.params.toList.all (fun t => P.readableRec t && decide (t < P.types.size)) = true)
    (hv : s.vars = []) (hrt : f.resultTypes = #[tb]) (htb : P.underlying tb = some .bool) (hfn : (s.fn H (ds ++ [])).results = [.lit (.bool true)] ∧ (s.fn H (ds ++ [])).args = ds ∧ (s.fn H (ds ++ [])).vars = [])
    (hW : DataW.Whole enc P f.params.toList s.vars false W args.toList ds gs before) (hb : Below W.heap.size W W') : s.post enc P f false true false false W args (.bool true) W' := by
  have hlt := hW.lt
  have hW0 := hW
  obtain ⟨p, q, hA, hV, hpq, hfz, hnd⟩ := hW
  have hg : gs = [] ∧ q = [] := by
    rw [hv] at hV
    cases gs with
    | nil => exact ⟨rfl, hV⟩
    | cons g gs => exact hV.elim
  obtain ⟨rfl, rfl⟩ := hg
  subst hpq
  refine ⟨ds, [], _, [], p, [], hW0, ?_, ?_, ?_, hb.frame _, fun h => by cases h⟩
  · rw [hfn.1, hrt]
    exact trodAll_mk1 (shut_bool htb true)
  · rw [hfn.2.1]
    exact trodAll_below hl hb _ _ _ _ hps hA (fun x hx => hlt x (by simp [hx]))
  · rw [hfn.2.2, hv]
    rfl

variable {w : World} {base : Nat} {spare : Nat → Bool} {held : Bool}
/-- A struct of five one-cell fields, by value. -/
theorem open_agg5 {r : Reach} {b0 : Nat} {t : TypeId} {f0 f1 f2 f3 f4 : Field} {v : Value} {d : DataW H} {p : List MemPlace} (hs : P.underlying t = some (.struct #[f0, f1, f2, f3, f4])) (hone : oneCellFields P #[f0, f1, f2, f3, f4] = true) (hC : P.cellsOf t = 5)
    (hv : Value.okWide P w r b0 t v) (h : DataW.Trod enc P w base spare held t v d p) :
    ∃ (v0 v1 v2 v3 v4 : Value) (y0 y1 y2 y3 y4 : DataW H × List MemPlace) (n : Nat), v = .agg #[v0, v1, v2, v3, v4] ∧
      DataW.trod enc P w base spare held n f0.type [v0] = some y0 ∧ DataW.trod enc P w base spare held n f1.type [v1] = some y1 ∧ DataW.trod enc P w base spare held n f2.type [v2] = some y2 ∧ DataW.trod enc P w base spare held n f3.type [v3] = some y3 ∧ DataW.trod enc P w base spare held n f4.type [v4] = some y4 := by
  obtain ⟨cs, rfl, hsz⟩ := okWide_struct hs hv
  obtain ⟨l⟩ := cs
  match l, hsz.trans hC with
  | [c0, c1, c2, c3, c4], _ =>
    obtain ⟨fuel, hf⟩ := h
    obtain ⟨xs, n, _, hx, _, hlen, hg⟩ := DataW.trod_struct hs hf
    obtain ⟨o0, k0⟩ := hone_of hone 0 f0 rfl
    obtain ⟨o1, k1⟩ := hone_of hone 1 f1 rfl
    obtain ⟨o2, k2⟩ := hone_of hone 2 f2 rfl
    obtain ⟨o3, k3⟩ := hone_of hone 3 f3 rfl
    obtain ⟨o4, k4⟩ := hone_of hone 4 f4 rfl
    match xs, hlen with
    | [y0, y1, y2, y3, y4], _ =>
      exact ⟨c0, c1, c2, c3, c4, y0, y1, y2, y3, y4, n, rfl, by simpa [Value.cells, o0, k0] using hg 0 f0 rfl, by simpa [Value.cells, o1, k1] using hg 1 f1 rfl, by simpa [Value.cells, o2, k2] using hg 2 f2 rfl, by simpa [Value.cells, o3, k3] using hg 3 f3 rfl, by simpa [Value.cells, o4, k4] using hg 4 f4 rfl⟩
theorem int_of_trod {k : IntKind} {t : TypeId} {n : Nat} {v : Value} {y : DataW H × List MemPlace} (ht : P.underlying t = some (.int k)) (h : DataW.trod enc P w base spare held n t [v] = some y) : ∃ x : Int, v = .int k x ∧ (Lit.int k x).wf = true := by
  obtain ⟨x, e, -, hw⟩ := DataW.trod_int ht h
  exact ⟨x, by simpa using e, hw⟩
end
/-! ### Arguments without pointers, opened to their cells -/
/-- What a cell may hold. -/
inductive Sc where
  | int (k : IntKind)
  | bool
  | str
def Sc.fits : Sc → Value → Prop
  | .int k, v => ∃ x : Int, v = .int k x ∧ (Lit.int k x).wf = true
  | .bool, v => ∃ b : Bool, v = .bool b
  | .str, v => ∃ s : ByteArray, v = .string s ∧ s.size ≤ maxLen
def Fits : List Sc → List Value → Prop
  | [], [] => True
  | s :: ks, v :: vs => s.fits v ∧ Fits ks vs
  | _, _ => False
theorem fits_cons {s : Sc} {ks : List Sc} {vs : List Value} (h : Fits (s :: ks) vs) : ∃ v vs', vs = v :: vs' ∧ s.fits v ∧ Fits ks vs' := by
  cases vs with
  | nil => exact h.elim
  | cons v vs => exact ⟨v, vs, rfl, h.1, h.2⟩
theorem fits_nil {vs : List Value} (h : Fits [] vs) : vs = [] := by
  cases vs with
  | nil => rfl
  | cons v vs => exact h.elim
theorem fits_append : ∀ {a b : List Sc} {xs ys : List Value}, Fits a xs → Fits b ys → Fits (a ++ b) (xs ++ ys)
  | [], _, [], _, _, h => h
  | [], _, _ :: _, _, h, _ => h.elim
  | _ :: _, _, [], _, h, _ => h.elim
  | _ :: _, _, _ :: _, _, h, h' => ⟨h.1, fits_append h.2 h'⟩
theorem fits_len : ∀ {a : List Sc} {xs : List Value}, Fits a xs → xs.length = a.length
  | [], [], _ => rfl
  | [], _ :: _, h => h.elim
  | _ :: _, [], h => h.elim
  | _ :: _, _ :: _, h => by simp [fits_len h.2]

def fieldsOf (P : Program) (F : TypeId → Option (List Sc)) : List Field → Nat → Option (List Sc)
  | [], _ => some []
  | f :: fs, off => if f.offset = off then (F f.type).bind fun a => if a.length = P.cellsOf f.type then (fieldsOf P F fs (off + a.length)).map (a ++ ·) else none else none
/-- The cells of a type without pointers. -/
def flat (P : Program) : Nat → TypeId → Option (List Sc)
  | 0, _ => none
  | n + 1, t =>
    match P.underlying t with
    | some .bool => some [.bool]
    | some (.int k) => some [.int k]
    | some .string => some [.str]
    | some (.struct fs) => (fieldsOf P (flat P n) fs.toList 0).bind fun ks => if ks.length = P.cellsOf t then some ks else none
    | some (.array k e) => (flat P n e).bind fun a => if a.length = P.cellsOf e ∧ k * a.length = P.cellsOf t then some (List.replicate k a).flatten else none
    | _ => none

section
variable {H : Type} {enc : TypeId × Value → H} {P : Program} {w : World} {base : Nat} {spare : Nat → Bool} {held : Bool}
theorem fields_fit {F : TypeId → Option (List Sc)} {n : Nat} {cs : List Value} (ih : ∀ t ks, F t = some ks → ∀ (cs : List Value) (x : DataW H × List MemPlace), DataW.trod enc P w base spare held n t cs = some x → Fits ks cs) :
    ∀ (fs : List Field) (off : Nat) (ks : List Sc), fieldsOf P F fs off = some ks → (∀ f ∈ fs, ∃ x, DataW.trod enc P w base spare held n f.type ((cs.drop f.offset).take (P.cellsOf f.type)) = some x) → cs.length = off + ks.length → Fits ks (cs.drop off)
  | [], off, ks, h, _, hl => by
    simp only [fieldsOf, Option.some.injEq] at h
    subst h
    rw [List.drop_eq_nil_of_le (by simp at hl; omega)]
    trivial
  | f :: fs, off, ks, h, hx, hl => by
    simp only [fieldsOf] at h
    split at h
    · rename_i ho
      obtain ⟨a, ha, h⟩ := Option.bind_eq_some_iff.1 h
      split at h
      · rename_i hal
        obtain ⟨r, hr, rfl⟩ := Option.map_eq_some_iff.1 h
        obtain ⟨x, hx0⟩ := hx f (.head _)
        have h1 := ih f.type a ha _ _ hx0
        have h2 := fields_fit ih fs (off + a.length) r hr (fun g hg => hx g (.tail _ hg)) (by rw [hl]; simp; omega)
        have e : cs.drop off = (cs.drop off).take a.length ++ cs.drop (off + a.length) := by
          rw [← List.drop_drop, List.take_append_drop]
        rw [e]
        rw [ho, ← hal] at h1
        exact fits_append h1 h2
      · cases h
    · cases h
theorem rep_fit {a : List Sc} {cs : List Value} : ∀ (k off : Nat), (∀ i, i < k → Fits a ((cs.drop (off + i * a.length)).take a.length)) → cs.length = off + k * a.length → Fits (List.replicate k a).flatten (cs.drop off)
  | 0, off, _, hl => by
    rw [List.drop_eq_nil_of_le (by simp at hl; omega)]
    trivial
  | k + 1, off, h, hl => by
    have h0 := h 0 (by omega)
    have h1 := rep_fit k (off + a.length) (fun i hi => by have := h (i + 1) (by omega); rwa [show off + a.length + i * a.length = off + (i + 1) * a.length by rw [Nat.add_mul]; omega]) (by rw [hl, Nat.add_mul]; omega)
    have e : cs.drop off = (cs.drop off).take a.length ++ cs.drop (off + a.length) := by
      rw [← List.drop_drop, List.take_append_drop]
    rw [e, List.replicate_succ, List.flatten_cons]
    simp only [Nat.zero_mul, Nat.add_zero] at h0
    exact fits_append h0 h1
theorem flat_fits : ∀ (m : Nat) (t : TypeId) (ks : List Sc), flat P m t = some ks → ∀ (fuel : Nat) (cs : List Value) (x : DataW H × List MemPlace), DataW.trod enc P w base spare held fuel t cs = some x → Fits ks cs
  | 0, _, _, h, _, _, _, _ => by simp [flat] at h
  | m + 1, t, ks, h, fuel, cs, x, hx => by
    unfold flat at h
    split at h
    · rename_i ht
      obtain ⟨b, rfl, -⟩ := DataW.trod_bool ht hx
      obtain rfl := Option.some.inj h
      exact ⟨⟨b, rfl⟩, trivial⟩
    · rename_i k ht
      obtain ⟨y, rfl, -, hw⟩ := DataW.trod_int ht hx
      obtain rfl := Option.some.inj h
      exact ⟨⟨y, rfl, hw⟩, trivial⟩
    · rename_i ht
      obtain ⟨s, rfl, -, hs⟩ := DataW.trod_string ht hx
      obtain rfl := Option.some.inj h
      exact ⟨⟨s, rfl, hs⟩, trivial⟩
    · rename_i fs ht
      obtain ⟨ks', hk, h⟩ := Option.bind_eq_some_iff.1 h
      split at h
      · rename_i hlen
        obtain rfl := Option.some.inj h
        obtain ⟨xs, n, -, -, hcl, hxl, hf⟩ := DataW.trod_struct ht hx
        have := fields_fit (P := P) (cs := cs) (n := n) (fun t ks hks cs x hx => flat_fits m t ks hks n cs x hx) fs.toList 0 ks' hk (fun f hfm => by
          obtain ⟨i, hi⟩ := List.mem_iff_getElem?.1 hfm
          have hi' : fs[i]? = some f := by simpa using hi
          have hlt := (Array.getElem?_eq_some_iff.1 hi').1
          exact ⟨_, (hf i f hi').trans (List.getElem?_eq_getElem (by omega))⟩) (by omega)
        simpa using this
      · cases h
    · rename_i k e ht
      obtain ⟨a, ha, h⟩ := Option.bind_eq_some_iff.1 h
      split at h
      · rename_i hlen
        obtain rfl := Option.some.inj h
        obtain ⟨xs, n, -, -, hcl, hxl, hf⟩ := DataW.trod_array ht hx
        have := rep_fit (a := a) (cs := cs) k 0 (fun i hi => by
          have h1 := (hf i hi).trans (List.getElem?_eq_getElem (by omega))
          have := flat_fits m e a ha n _ _ h1
          rwa [hlen.1, Nat.zero_add]) (by omega)
        simpa using this
      · cases h
    · cases h
theorem okWide_array {r : Reach} {b0 : Nat} {t : TypeId} {n : Nat} {e : TypeId} {v : Value} (ht : P.underlying t = some (.array n e)) (h : Value.okWide P w r b0 t v) : ∃ cs, v = .agg cs ∧ cs.size = P.cellsOf t := by
  simp only [Value.okWide, ht] at h
  obtain ⟨cs, h1, h2, _⟩ := h
  exact ⟨cs, h1, h2⟩
/-- A struct or an array without pointers, by value. -/
theorem open_flat {t : TypeId} {v : Value} {d : DataW H} {p : List MemPlace} {ks : List Sc} (m : Nat) (hf : flat P m t = some ks) (hv : ∃ cs, v = .agg cs ∧ cs.size = P.cellsOf t) (h : DataW.Trod enc P w base spare held t v d p) : ∃ l : List Value, v = .agg l.toArray ∧ Fits ks l := by
  obtain ⟨cs, rfl, -⟩ := hv
  obtain ⟨fuel, hx⟩ := h
  exact ⟨cs.toList, by simp, flat_fits m t ks hf fuel _ _ hx⟩
end
theorem u8_bounds {x : Int} (h : (Lit.int .u8 x).wf = true) : 0 ≤ x ∧ x ≤ 255 := by
  have := bounds_u8 h
  omega
end Go.Proofs.YtijpomemobgddaaGreatDoor
