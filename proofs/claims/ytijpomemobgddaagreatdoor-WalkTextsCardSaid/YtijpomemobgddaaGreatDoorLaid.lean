/- The program's tables: what the row lists of them lies where the evaluator looks. -/
import Derived.Test.YtijpomemobgddaaGreatDoorOpen
import Derived.Test.YtijpomemobgddaaGreatDoorE22
import Derived.LaidByTextLater
set_option linter.unusedSimpArgs false
set_option linter.unusedVariables false
namespace Go.Proofs.YtijpomemobgddaaGreatDoor
open Go Go.RowKit Go.Proofs.YtijpomemobgddaaGreatDoor.Ev
open Go.ChangeShapes Go.WideShapes Go.ChangeAt
def untrodA (F : DataW Unit → Option (List Value)) (c : Nat) : List (DataW Unit) → Option (List Value)
  | [] => some []
  | d :: ds => match F d, untrodA F c ds with
    | some a, some r => if a.length = c then some (a ++ r) else none
    | _, _ => none
def untrodF (P : Program) (F : TypeId → DataW Unit → Option (List Value)) : List Field → List (DataW Unit) → Nat → Option (List Value)
  | [], [], _ => some []
  | f :: fs, d :: ds, off => match F f.type d, untrodF P F fs ds (off + P.cellsOf f.type) with
    | some a, some r => if a.length = P.cellsOf f.type ∧ f.offset = off then some (a ++ r) else none
    | _, _ => none
  | _, _, _ => none
/-- The cells that read as a datum. -/
def untrod (P : Program) : Nat → TypeId → DataW Unit → Option (List Value)
  | 0, _, _ => none
  | n + 1, t, d => match P.underlying t with
    | some .bool => match d with
      | .lit (.bool b) => some [.bool b]
      | _ => none
    | some (.int k) => match d with
      | .lit (.int k' z) => if k = k' then some [.int k z] else none
      | _ => none
    | some .string => match d with
      | .lit (.string s) => some [.string ⟨s.toArray⟩]
      | _ => none
    | some (.array _ e) => match d with
      | .agg ps => (untrodA (untrod P n e) (P.cellsOf e) ps).bind fun vs => if vs.length = P.cellsOf t then some vs else none
      | _ => none
    | some (.struct fs) => match d with
      | .agg ps => (untrodF P (untrod P n) fs.toList ps 0).bind fun vs => if vs.length = P.cellsOf t then some vs else none
      | _ => none
    | _ => none
theorem untrodA_ok {F : DataW Unit → Option (List Value)} {c : Nat} {cs : List Value} : ∀ (ps : List (DataW Unit)) (off : Nat) (vs : List Value), untrodA F c ps = some vs → (∀ i d, ps[i]? = some d → ∀ a, F d = some a → (cs.drop (off + i * c)).take c = a) → cs.length = off + vs.length → cs.drop off = vs
  | [], off, vs, h, _, hl => by
    simp only [untrodA, Option.some.injEq] at h
    subst h
    exact List.drop_eq_nil_of_le (by simp at hl; omega)
  | d :: ds, off, vs, h, hx, hl => by
    simp only [untrodA] at h
    split at h
    · rename_i a r ha hr
      split at h
      · rename_i hac
        obtain rfl := Option.some.inj h
        have h1 := hx 0 d rfl a ha
        simp only [Nat.zero_mul, Nat.add_zero] at h1
        have h2 := untrodA_ok ds (off + c) r hr (fun i d' hd' a' ha' => by
          have := hx (i + 1) d' (by simpa using hd') a' ha'
          rwa [show off + (i + 1) * c = off + c + i * c by rw [Nat.add_mul]; omega] at this) (by rw [hl]; simp; omega)
        have e : cs.drop off = (cs.drop off).take c ++ cs.drop (off + c) := by rw [← List.drop_drop, List.take_append_drop]
        rw [e, h1, h2]
      · cases h
    · cases h
theorem untrodF_ok {P : Program} {F : TypeId → DataW Unit → Option (List Value)} {cs : List Value} : ∀ (fs : List Field) (ps : List (DataW Unit)) (off : Nat) (vs : List Value), untrodF P F fs ps off = some vs → (∀ (i : Nat) (f : Field) d, fs[i]? = some f → ps[i]? = some d → ∀ a, F f.type d = some a → (cs.drop f.offset).take (P.cellsOf f.type) = a) → cs.length = off + vs.length → cs.drop off = vs
  | [], [], off, vs, h, _, hl => by
    simp only [untrodF, Option.some.injEq] at h
    subst h
    exact List.drop_eq_nil_of_le (by simp at hl; omega)
  | f :: fs, d :: ds, off, vs, h, hx, hl => by
    simp only [untrodF] at h
    split at h
    · rename_i a r ha hr
      split at h
      · rename_i hac
        obtain rfl := Option.some.inj h
        have h1 := hx 0 f d rfl rfl a ha
        have h2 := untrodF_ok fs ds (off + P.cellsOf f.type) r hr (fun i f' d' hf' hd' a' ha' => hx (i + 1) f' d' (by simpa using hf') (by simpa using hd') a' ha') (by rw [hl]; simp; omega)
        have e : cs.drop off = (cs.drop off).take (P.cellsOf f.type) ++ cs.drop (off + P.cellsOf f.type) := by rw [← List.drop_drop, List.take_append_drop]
        rw [e, ← hac.2, h1, hac.2, h2]
      · cases h
    · cases h
  | [], _ :: _, _, _, h, _, _ => by simp [untrodF] at h
  | _ :: _, [], _, _, h, _, _ => by simp [untrodF] at h
section
variable {P : Program} {w : World} {base : Nat} {spare : Nat → Bool} {held : Bool}
theorem untrod_ok : ∀ (m : Nat) (t : TypeId) (d : DataW Unit) (vs : List Value), untrod P m t d = some vs → ∀ (fuel : Nat) (cs : List Value) (p : List MemPlace), DataW.trod (fun _ => ()) P w base spare held fuel t cs = some (d, p) → cs = vs
  | 0, _, _, _, h, _, _, _, _ => by simp [untrod] at h
  | m + 1, t, d, vs, h, fuel, cs, p, hx => by
    unfold untrod at h
    split at h
    · rename_i ht
      obtain ⟨b, rfl, hd⟩ := DataW.trod_bool ht hx
      simp only [Prod.mk.injEq] at hd
      rw [hd.1] at h
      exact Option.some.inj h
    · rename_i k ht
      obtain ⟨y, rfl, hd, hw⟩ := DataW.trod_int ht hx
      simp only [Prod.mk.injEq] at hd
      rw [hd.1] at h
      simpa using h
    · rename_i ht
      obtain ⟨s, rfl, hd, hs⟩ := DataW.trod_string ht hx
      simp only [Prod.mk.injEq] at hd
      rw [hd.1] at h
      have := Option.some.inj h
      rw [← this]
    · rename_i k e ht
      obtain ⟨xs, n, -, hxd, hcl, hxl, hf⟩ := DataW.trod_array ht hx
      simp only [Prod.mk.injEq] at hxd
      rw [hxd.1] at h
      obtain ⟨vs', hk, h⟩ := Option.bind_eq_some_iff.1 h
      split at h
      · rename_i hlen
        obtain rfl := Option.some.inj h
        have := untrodA_ok (cs := cs) (xs.map (·.1)) 0 vs' hk (fun i d' hd' a ha => by
          rw [List.getElem?_map] at hd'
          obtain ⟨y, hy, rfl⟩ := Option.map_eq_some_iff.1 hd'
          have hi : i < k := by
            rw [← hxl]
            exact (List.getElem?_eq_some_iff.1 hy).1
          have h1 := (hf i hi).trans hy
          rw [Nat.zero_add]
          exact untrod_ok m e y.1 a ha n _ y.2 h1) (by omega)
        simpa using this
      · cases h
    · rename_i fs ht
      obtain ⟨xs, n, -, hxd, hcl, hxl, hf⟩ := DataW.trod_struct ht hx
      simp only [Prod.mk.injEq] at hxd
      rw [hxd.1] at h
      obtain ⟨vs', hk, h⟩ := Option.bind_eq_some_iff.1 h
      split at h
      · rename_i hlen
        obtain rfl := Option.some.inj h
        have := untrodF_ok (P := P) (cs := cs) fs.toList (xs.map (·.1)) 0 vs' hk (fun i f d' hf' hd' a ha => by
          rw [List.getElem?_map] at hd'
          obtain ⟨y, hy, rfl⟩ := Option.map_eq_some_iff.1 hd'
          have h1 := (hf i f (by simpa using hf')).trans hy
          exact untrod_ok m f.type y.1 a ha n _ y.2 h1) (by omega)
        simpa using this
      · cases h
    · cases h
end
theorem laidVars_mem {P : Program} {w : World} : ∀ {l : List (String × DataW Unit)} {ps : List MemPlace}, DataW.LaidVars P w l ps → ∀ {n : String} {d : DataW Unit}, (n, d) ∈ l → ∃ g t cs fuel p, P.globalNamed n = some g ∧ (P.globals[g]?).map (·.type) = some t ∧ w.var? P n = some cs ∧ DataW.trod (fun _ => ()) P w 0 (fun _ => true) false fuel t cs.toList = some (d, p)
  | [], _, _, _, _, hm => by cases hm
  | x :: l, ps, h, n, d, hm => by
    obtain ⟨n0, d0⟩ := x
    obtain ⟨g, t, cs, fuel, p, q, h1, h2, h3, h4, h5, -⟩ := h
    rcases List.mem_cons.1 hm with he | hm'
    · simp only [Prod.mk.injEq] at he
      obtain ⟨rfl, rfl⟩ := he
      exact ⟨g, t, cs, fuel, p, h1, h2, h3, h4⟩
    · exact laidVars_mem h5 hm'
/-- A table of the evaluator is one of the list. -/
def glIn (P : Program) (laid : List (String × DataW Unit)) (x : Nat × List Value) : Bool :=
  !x.2.isEmpty && laid.any fun y => (match P.globalNamed y.1 with
    | some g => Nat.beq g x.1
    | none => false) && (match (P.globals[x.1]?).map (·.type) with
      | some t => match untrod P 8 t y.2 with
        | some vs => eqL (vs.map .v) (x.2.map .v)
        | none => false
      | none => false)
theorem map_v_inj : ∀ {a b : List Value}, a.map A.v = b.map A.v → a = b
  | [], [], _ => rfl
  | x :: a, y :: b, h => by
    simp only [List.map_cons, List.cons.injEq, A.v.injEq] at h
    rw [h.1, map_v_inj h.2]
  | [], _ :: _, h => by simp at h
  | _ :: _, [], h => by simp at h
theorem trod_ifaceL {P : Program} {w : World} {spare : Nat → Bool} {held : Bool} {fuel t : Nat} {cs : List Value} {p : List MemPlace} {n : String} {d : DataW Unit} (ht : ∃ ms, P.underlying t = some (.interface ms)) (h : DataW.trod (fun _ => ()) P w 0 spare held fuel t cs = some (.iface n d, p)) : ∃ u v, cs = [.iface u v] := by
  obtain ⟨ms, ht⟩ := ht
  cases fuel with
  | zero => simp [DataW.trod] at h
  | succ m =>
    unfold DataW.trod at h
    rw [ht] at h
    split at h <;> simp_all
def isIface : DataW Unit → Bool
  | .iface _ _ => true
  | _ => false
/-- A variable that holds an interface value is one of the list. -/
def ifIn (P : Program) (laid : List (String × DataW Unit)) (g0 : Nat) : Bool :=
  laid.any fun y => (match P.globalNamed y.1 with
    | some g => Nat.beq g g0
    | none => false) && isIface y.2 && (match (P.globals[g0]?).map (·.type) with
      | some t => match P.underlying t with
        | some (.interface _) => true
        | _ => false
      | none => false)
theorem var_cells {P : Program} {w : World} {n : String} {g : Nat} {cs : Array Value} (hg : P.globalNamed n = some g) (h : w.var? P n = some cs) : ∃ e fz, w.heap[g]? = some (.cells cs e fz) := by
  simp only [World.var?, hg, Option.bind_some] at h
  split at h
  · rename_i cs' e fz hc
    simp only [Option.some.injEq] at h
    subst h
    exact ⟨_, _, hc⟩
  · cases h
theorem gl_of_laid {P : Program} {laid : List (String × DataW Unit)} {W : World} {gl : List (Nat × List Value)} {lk : Nat → List Nat → List Nat → M → M → Loop → Prop} {ifs : Nat → Bool} (hp : (laid.filter fun x => x.2.handleName?.isSome) = []) (h : laidMetH P laid W) (hg : gl.all (glIn P laid) = true) (hi : ∀ g, ifs g = true → ifIn P laid g = true) : Ev.Gl ⟨lookL gl, lk, ifs⟩ (fun _ => False) W := by
  have h' : laidMet P laid W := by
    unfold laidMetH at h
    rw [hp] at h
    exact h
  obtain ⟨ps, hv, -⟩ := h'
  refine ⟨fun g xs hx => ?_, fun g hx => ?_⟩
  · have hm := lookL_mem hx
    have hb := List.all_eq_true.1 hg _ hm
    unfold glIn at hb
    simp only [Bool.and_eq_true, Bool.not_eq_true'] at hb
    obtain ⟨hne, hb⟩ := hb
    obtain ⟨⟨n, d⟩, hy, hb⟩ := List.any_eq_true.1 hb
    simp only [Bool.and_eq_true] at hb
    obtain ⟨hb1, hb2⟩ := hb
    obtain ⟨g', t, cs, fuel, p, h1, h2, h3, h4⟩ := laidVars_mem hv hy
    rw [h1] at hb1
    obtain rfl := Nat.eq_of_beq_eq_true hb1
    rw [h2] at hb2
    simp only at hb2
    split at hb2
    · rename_i vs hu
      have h5 := map_v_inj (eqL_eq _ _ hb2)
      have h6 := untrod_ok 8 t d vs hu fuel _ _ h4
      have hlie : Lies W g' 0 xs := fun i x hi => by
        have h7 := World.var?_cell h1 h3 i
        have e : cs[i]? = some x := by
          rw [← h5, ← h6] at hi
          simpa using hi
        rw [Nat.zero_add]
        rw [h7, e]
      refine ⟨fun h => h, ?_, hlie, ?_⟩
      · cases xs with
        | nil => simp at hne
        | cons x xs => exact World.block_lt_of_cell? W ⟨g', 0, none⟩ (hlie 0 x rfl)
      · obtain ⟨e, fz, hc⟩ := var_cells h1 h3
        refine ⟨e, fz, ?_⟩
        rw [hc, ← h5, ← h6]
    · cases hb2
  · obtain ⟨⟨n, d⟩, hy, hb⟩ := List.any_eq_true.1 (hi g hx)
    simp only [Bool.and_eq_true] at hb
    obtain ⟨⟨hb1, hb3⟩, hb2⟩ := hb
    obtain ⟨g', t, cs, fuel, p, h1, h2, h3, h4⟩ := laidVars_mem hv hy
    rw [h1] at hb1
    obtain rfl := Nat.eq_of_beq_eq_true hb1
    rw [h2] at hb2
    simp only at hb2
    cases d with
    | iface n' d' =>
      split at hb2
      · rename_i ms ht
        obtain ⟨u, v, hcs⟩ := trod_ifaceL ⟨ms, ht⟩ h4
        have h7 := World.var?_cell h1 h3 0
        have e : cs[0]? = some (.iface u v) := by
          rw [← Array.getElem?_toList, hcs]
          rfl
        rw [e] at h7
        exact ⟨fun h => h, World.block_lt_of_cell? W ⟨g', 0, none⟩ h7, u, v, h7⟩
      · cases hb2
    | _ => cases hb3
end Go.Proofs.YtijpomemobgddaaGreatDoor
