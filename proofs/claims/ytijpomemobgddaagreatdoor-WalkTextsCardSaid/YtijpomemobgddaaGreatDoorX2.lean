/- What the evaluator takes as known otherwise: strings.Builder's copyCheck, strings.Join, strconv.Itoa. -/
import Derived.Test.YtijpomemobgddaaGreatDoorX1
import Derived.Test.YtijpomemobgddaaGreatDoorXS
set_option linter.unusedSimpArgs false
set_option linter.unusedVariables false
namespace Go.Proofs.YtijpomemobgddaaGreatDoor.Ev
open Go Go.RowKit Go.Shelf

theorem setCell_row {w : World} {g : Nat} {cur : Array Value} {e : TypeId} {fz : Nat × Nat} (h : w.heap[g]? = some (.cells cur e fz)) (v : Value) : w.setCell ⟨g, 0, none⟩ v = w.setRow g (cur.setIfInBounds 0 v) := by
  unfold World.setCell World.setRow
  congr 1
  apply Array.ext_getElem?
  intro i
  rw [Array.getElem?_modify, Array.getElem?_modify]
  split
  · rename_i hi
    have hi : g = i := hi
    subst hi
    rw [h]
    rfl
  · rfl
/-! copyCheck -/
theorem enters45 : Enters Tryz.prog 45 := by
  intro args w
  have h5 : ¬ Tryz.f45.name = "runtime.NumGoroutine" := by decide
  have h6 : ∃ code, Tryz.f45.body = some code := ⟨_, rfl⟩
  obtain ⟨code, h6⟩ := h6
  simp [callFunc, Tryz.func45, h5, h6]
/-- A builder's first cell is its own address, behind it. -/
def ccO (zs : List A) (H : Heap) : Option (A × Heap) := match zs with
  | [.ptr b 0] => match H[b]? with
    | some (some k) => bif Nat.beq k.e 89 && k.whole then match k.cs with
      | [.v (.pointer none), u] => some (.tup [], H.set b (some ⟨k.e, [.ptr b 0, u], k.whole⟩))
      | [.ptr b' 0, _] => bif Nat.beq b' b then some (.tup [], H) else none
      | _ => none
      else none
    | _ => none
  | _ => none
theorem cc_ok {T : Tb} {zs : List A} {H H' : Heap} {x : A} (h : ccO zs H = some (x, H')) : FnOut T Tryz.prog 45 zs H x H' := by
  refine .inr ⟨enters45, fun c ys hH ok hr => ?_⟩
  subst hH
  unfold ccO at h
  split at h
  · rename_i b
    split at h
    · rename_i k hb
      cases hbe : (Nat.beq k.e 89 && k.whole) with
      | false => simp [hbe] at h
      | true =>
        simp only [hbe, cond_true] at h
        simp only [Bool.and_eq_true] at hbe
        obtain ⟨hke, hkw⟩ := hbe
        have hke := Nat.eq_of_beq_eq_true hke
        obtain ⟨y, rfl, hy⟩ := hr.single
        have hy' := hy
        rw [R] at hy
        obtain ⟨g, hg, rfl, cur0, e0, fz0, hcur0⟩ := hy
        obtain ⟨cur, xs, hcur, hxs, hpre, hwh⟩ := ok.cells (e := k.e) (cs := k.cs) (wh := k.whole) hb hg hcur0
        split at h
        · rename_i u hcs
          simp only [Option.some.injEq, Prod.mk.injEq] at h
          obtain ⟨rfl, rfl⟩ := h
          rw [hcs] at hxs hwh
          rw [RL] at hxs
          obtain ⟨x0, xr, rfl, hx0, hxs⟩ := hxs
          rw [R] at hx0
          subst hx0
          obtain ⟨x1, rfl, hx1⟩ := hxs.single
          have hsz : cur.size = 2 := by simpa using hwh hkw
          have hcu : cur = #[.pointer none, x1] := by
            obtain ⟨t, ht⟩ := hpre
            apply Array.ext'
            have : t = [] := by
              have := congrArg List.length ht
              simp [hsz] at this
              exact this
            subst this
            simpa using ht.symm
          subst hcu
          rw [hke] at hcur
          refine (Any.Builder_copyCheck_fresh { Tryz.lays156 with } Tryz.Builder_Extra_156.toX72 g c.w ?_ ?_ ?_).mono ?_
          · rw [cell_of_row c.w g 0 _ _ _ hcur]
            rfl
          · show c.w.shape? g = some (89, 2)
            simp [World.shape?, hcur]
          · simp [World.frozen?, hcur]
          · rintro e w' ⟨rfl, rfl⟩
            rw [← hke] at hcur
            obtain ⟨c', k1, k2, k3, k4, k5⟩ := setBlk (cs' := [.ptr b 0, u]) (cur' := #[.pointer (some ⟨g, 0, none⟩), x1]) (xs' := [.pointer (some ⟨g, 0, none⟩), x1]) ok hb hg hcur (RL.cons hy' hxs) (by simp) rfl (fun _ => rfl)
            refine ⟨_, c', rfl, ?_, k1, k3, k4, ?_⟩
            · rw [k2, setCell_row hcur]
              rfl
            · rw [R]
              exact ⟨[], rfl, RL.nil⟩
        · rename_i b' u hcs
          cases hbb : Nat.beq b' b with
          | false => simp [hbb] at h
          | true =>
            obtain rfl := Nat.eq_of_beq_eq_true hbb
            simp only [hbb, cond_true, Option.some.injEq, Prod.mk.injEq] at h
            obtain ⟨rfl, rfl⟩ := h
            rw [hcs] at hxs
            rw [RL] at hxs
            obtain ⟨x0, xr, rfl, hx0, hxs⟩ := hxs
            rw [R] at hx0
            obtain ⟨g', hg', rfl, -⟩ := hx0
            obtain rfl := Option.some.inj (hg.symm.trans hg')
            refine (Any.Builder_copyCheck_used { Tryz.lays156 with } Tryz.Builder_Extra_156.toX72 g c.w ?_).mono ?_
            · rw [cell_of_row c.w g 0 _ _ _ hcur]
              obtain ⟨t, ht⟩ := hpre
              rw [← Array.getElem?_toList, ← ht]
              rfl
            · rintro e w' ⟨rfl, rfl⟩
              refine ⟨_, c, rfl, rfl, rfl, To.refl c, ok, ?_⟩
              rw [R]
              exact ⟨[], rfl, RL.nil⟩
        · cases h
    · cases h
  · cases h

/-! strings.Join -/
theorem enters_fn {P : Program} {f : FuncId} {fn : Func} {code : Code} (h1 : P.funcs[f]? = some fn) (h2 : fn.body = some code) (h5 : ¬ fn.name = "runtime.NumGoroutine") : Enters P f := by
  intro args w
  simp [callFunc, h1, h5, h2]
def strsA : List A → Option (List ByteArray)
  | [] => some []
  | .v (.string s) :: l => match strsA l with
    | some r => some (s :: r)
    | none => none
  | _ => none
theorem strsA_ok {ρ : List Nat} {own : Nat → Prop} {w : World} : ∀ {cs : List A} {xs : List ByteArray} {ys : List Value}, strsA cs = some xs → RL ρ own w cs ys → ys = xs.map .string
  | [], xs, ys, h, hr => by
    rw [RL] at hr
    simp only [strsA, Option.some.injEq] at h
    subst h
    exact hr
  | c :: cs, xs, ys, h, hr => by
    rw [RL] at hr
    obtain ⟨y, zs, rfl, h1, h2⟩ := hr
    unfold strsA at h
    split at h
    · rename_i heq
      cases heq
    · rename_i s l heq
      injection heq with e1 e2
      subst e1
      subst e2
      split at h
      · rename_i r hr'
        obtain rfl := Option.some.inj h
        rw [R] at h1
        subst h1
        rw [strsA_ok hr' h2]
        rfl
      · cases h
    · cases h
def joinX : List A → Option A
  | [.sl n cs, .v (.string sep)] => match strsA cs with
    | some xs => bif Nat.beq xs.length n && Nat.ble n 140737488355328 && Nat.ble (Lib.join (xs.map (·.data.toList)) sep.data.toList).length 140737488355328 then some (.v (.string ⟨(Lib.join (xs.map (·.data.toList)) sep.data.toList).toArray⟩)) else none
    | none => none
  | _ => none
/-- What is asked of a function known otherwise. -/
def KnownQ (T : Tb) (P : Program) (f : FuncId) (zs : List A) (r : A) : Prop := ∀ (own : Nat → Prop) (w : World) (ys : List Value), (∀ g, own g → g < w.heap.size) → Gl T.gl own w → RL [] own w zs ys →
  Go.Calls P f ys.toArray w fun e w' => ∃ v, e = .returned v ∧ Grow w w' ∧ R [] own w' r v
theorem join_ok {T : Tb} {zs : List A} {r : A} (h : joinX zs = some r) : KnownQ T Tryz.prog 69 zs r := by
  intro own w ys _ _ hr
  unfold joinX at h
  split at h
  · rename_i n cs sep
    split at h
    · rename_i xs hxs
      cases hc : (Nat.beq xs.length n && Nat.ble n 140737488355328 && Nat.ble (Lib.join (xs.map (·.data.toList)) sep.data.toList).length 140737488355328) with
      | false => simp [hc] at h
      | true =>
        simp only [hc, cond_true, Option.some.injEq] at h
        subst h
        simp only [Bool.and_eq_true] at hc
        obtain ⟨⟨h1, h2⟩, h3⟩ := hc
        obtain rfl := Nat.eq_of_beq_eq_true h1
        have h2 := Nat.le_of_ble_eq_true h2
        have h3 := Nat.le_of_ble_eq_true h3
        rw [RL] at hr
        obtain ⟨y1, ys1, rfl, hr1, hr2⟩ := hr
        obtain ⟨y2, rfl, hr3⟩ := hr2.single
        rw [R] at hr3
        subst hr3
        rw [R] at hr1
        rcases hr1 with ⟨hl, rfl, ad, cap, rfl⟩ | ⟨g, off, cap, vs, rfl, hcap, hg, -, hvs, hlie⟩
        · simp only [strsA, Option.some.injEq] at hxs
          subst hxs
          refine (Tryz.strings_Join_none ad cap sep w).mono ?_
          rintro e w' ⟨rfl, rfl⟩
          exact ⟨_, rfl, Below.refl _ _, by rw [R]; rfl⟩
        · have hv := strsA_ok hxs hvs
          refine (Tryz.strings_Join g off cap xs sep w (fun j x hx => hlie j _ (by rw [hv]; simp [hx])) hg h2 hcap h3).mono ?_
          rintro e w' ⟨rfl, hb⟩
          exact ⟨_, rfl, hb, by rw [R]⟩
    · cases h
  · cases h

/-! strconv.Itoa -/
def dig (n : Nat) : List UInt8 := bif Nat.blt n 10 then [UInt8.ofNat (48 + n)] else bif Nat.blt n 100 then [UInt8.ofNat (48 + n / 10), UInt8.ofNat (48 + n % 10)] else [UInt8.ofNat (48 + n / 100), UInt8.ofNat (48 + n / 10 % 10), UInt8.ofNat (48 + n % 10)]
theorem dig_eq {n : Nat} (h : n < 1000) : Lib.decDigits n = dig n := by
  unfold dig
  by_cases h1 : n < 10
  · have : Nat.blt n 10 = true := by rw [Nat.blt_eq]; exact h1
    rw [this, Lib.decDigits, dif_pos h1]
    rfl
  · have h1' : Nat.blt n 10 = false := by rw [Bool.eq_false_iff]; intro h; rw [Nat.blt_eq] at h; exact h1 h
    rw [h1', cond_false, Lib.decDigits, dif_neg h1]
    by_cases h2 : n < 100
    · have : Nat.blt n 100 = true := by rw [Nat.blt_eq]; exact h2
      rw [this, cond_true, Lib.decDigits, dif_pos (by omega)]
      rfl
    · have h2' : Nat.blt n 100 = false := by rw [Bool.eq_false_iff]; intro h; rw [Nat.blt_eq] at h; exact h2 h
      rw [h2', cond_false, Lib.decDigits, dif_neg (by omega), Lib.decDigits, dif_pos (by omega), Nat.div_div_eq_div_mul]
      rfl
def itoaX : List A → Option A
  | [.v (.int .i64 n)] => if 0 ≤ n ∧ n < 1000 then some (.v (.string ⟨(dig n.toNat).toArray⟩)) else none
  | _ => none
theorem itoa_ok {T : Tb} (h10 : T.gl.tab 6 = some (Lib.pow10Tab.map fun z => .int .u64 z)) {zs : List A} {r : A} (h : itoaX zs = some r) : KnownQ T Tryz.prog 40 zs r := by
  intro own w ys _ hgl hr
  unfold itoaX at h
  split at h
  · rename_i n
    split at h
    · rename_i hn
      obtain rfl := Option.some.inj h
      obtain ⟨y, rfl, hy⟩ := hr.single
      rw [R] at hy
      subst hy
      obtain ⟨-, -, -, e0, fz, hcells⟩ := hgl.1 _ _ h10
      have htab : Lib.TabIs Tryz.prog w "internal/strconv.uint64pow10" .u64 Lib.pow10Tab := by
        unfold Lib.TabIs World.var?
        rw [show Tryz.prog.globalNamed "internal/strconv.uint64pow10" = some 6 by kernel_rfl, Option.bind_some, hcells]
      refine (Tryz.strconv_Itoa n (by omega) (by omega) w htab).mono ?_
      rintro e w' ⟨rfl, k, os, rfl⟩
      refine ⟨_, rfl, ?_, ?_⟩
      · refine { os := rfl, tape := rfl, output := rfl, size := ?_, block := fun j hj => ?_ }
        · show w.heap.size ≤ (w.heap ++ os).size
          simp
        · show (w.heap ++ os)[j]? = w.heap[j]?
          exact Array.getElem?_append_left hj
      · rw [R]
        have hneg : ¬ n < 0 := by omega
        simp only [Lib.itoa, hneg, if_false]
        rw [dig_eq (by omega)]
    · cases h
  · cases h

/-! number -/
def numF (s : ByteArray) : Option Nat := match Lib.parseUintB 8 s.data.toList with
  | .ok u => some u
  | _ => none
theorem parse_lt : ∀ (l : List UInt8) (acc u : Nat), Lib.parseUintM 255 acc l = .ok u → acc ≤ 255 → u ≤ 255
  | [], acc, u, h, ha => by
    simp only [Lib.parseUintM] at h
    cases h
    exact ha
  | c :: r, acc, u, h, ha => by
    unfold Lib.parseUintM at h
    split at h
    · split at h
      · cases h
      · split at h
        · cases h
        · exact parse_lt r _ u h (by omega)
    · cases h
theorem numF_le {s : ByteArray} {u : Nat} (h : Lib.parseUintB 8 s.data.toList = .ok u) : u ≤ 255 := by
  unfold Lib.parseUintB at h
  split at h
  · cases h
  · exact parse_lt _ 0 u h (by omega)
def numX : List A → Option A
  | [.v (.string s)] => bif Nat.ble s.size 281474976710656 then some (.v (.int .u8 ((numF s).getD 0 : Nat))) else none
  | _ => none
theorem num_ok {T : Tb} (h4 : T.gl.ifs 4 = true) (h5 : T.gl.ifs 5 = true) {zs : List A} {r : A} (h : numX zs = some r) : KnownQ T Tryz.prog 38 zs r := by
  intro own w ys _ hgl hr
  unfold numX at h
  split at h
  · rename_i s
    cases hl : Nat.ble s.size 281474976710656 with
    | false => simp [hl] at h
    | true =>
      simp only [hl, cond_true, Option.some.injEq] at h
      subst h
      have hl := Nat.le_of_ble_eq_true hl
      obtain ⟨y, rfl, hy⟩ := hr.single
      rw [R] at hy
      subst hy
      obtain ⟨-, -, t4, p4, hc4⟩ := hgl.2 _ h4
      obtain ⟨-, -, t5, p5, hc5⟩ := hgl.2 _ h5
      have hnil : ∀ (x : Value) (w : World), (binOp BinOp.neq 93 (.iface 250 x) .nilIface).run Tryz.prog w = .ok (.bool true) w := fun _ _ => by kernel_rfl
      have hnil' : ∀ (w : World), (binOp BinOp.neq 93 .nilIface .nilIface).run Tryz.prog w = .ok (.bool false) w := fun _ => by kernel_rfl
      cases hp : Lib.parseUintB 8 s.data.toList with
      | ok u =>
        have hu := numF_le hp
        have hn : numF s = some u := by unfold numF; rw [hp]
        rw [hn]
        show Go.Calls Tryz.prog 38 #[.string s] w _
        go_enter Tryz.func38, Tryz.ntmps38
        go_wp2_with (go_at_call 65; refine (Tryz.strconv_ParseUint_10_at8_ok s (by omega) u hp _).mono ?_; rintro e w' ⟨rfl, hw⟩)
        go_ret
        refine ⟨_, rfl, ?_, by rw [R]; rfl⟩
        rcases hw with rfl | rfl
        · exact Below.refl _ _
        · exact Lib.bytesWorld_below _ _ _
      | range =>
        have hn : numF s = none := by unfold numF; rw [hp]
        rw [hn]
        show Go.Calls Tryz.prog 38 #[.string s] w _
        go_enter Tryz.func38, Tryz.ntmps38
        go_wp2_with (go_at_call 65; refine (Tryz.strconv_ParseUint_10_at8_range s hl hp _ _ hc5 (.inr ⟨_, _, rfl⟩)).mono ?_; rintro e w' ⟨N, rfl, -, -, hb⟩)
        go_ret
        exact ⟨_, rfl, hb, by rw [R]; rfl⟩
      | _ =>
        have hn : numF s = none := by unfold numF; rw [hp]
        rw [hn]
        show Go.Calls Tryz.prog 38 #[.string s] w _
        go_enter Tryz.func38, Tryz.ntmps38
        go_wp2_with (go_at_call 65; refine (Tryz.strconv_ParseUint_10_at8_syntax s hl hp _ _ hc4 (.inr ⟨_, _, rfl⟩)).mono ?_; rintro e w' ⟨N, rfl, -, -, hb⟩)
        go_ret
        exact ⟨_, rfl, hb, by rw [R]; rfl⟩
  · cases h

/-! the number of msg.scan -/
def numO (zs : List A) (H : Heap) : Option (A × Heap) := match zs with
  | [.v (.string s), .ptr b 0] => match H[b]? with
    | some (some k) => bif (Nat.beq k.e 4 && k.whole) && Nat.ble s.size 281474976710656 then match k.cs with
      | [.v (.bool x)] => some (.v (.int .u8 ((numF s).getD 0 : Nat)), H.set b (some ⟨k.e, [.v (.bool (x && (numF s).isSome))], k.whole⟩))
      | _ => none
      else none
    | _ => none
  | _ => none
theorem enters99 : Enters Tryz.prog 99 := enters_fn Tryz.func99 rfl (by decide)
theorem numO_ok {T : Tb} (h4 : T.gl.ifs 4 = true) (h5 : T.gl.ifs 5 = true) {zs : List A} {H H' : Heap} {x : A} (h : numO zs H = some (x, H')) : FnOut T Tryz.prog 99 zs H x H' := by
  refine .inr ⟨enters99, fun c ys hH ok hr => ?_⟩
  subst hH
  unfold numO at h
  split at h
  · rename_i s b
    split at h
    · rename_i k hb
      cases hbe : ((Nat.beq k.e 4 && k.whole) && Nat.ble s.size 281474976710656) with
      | false => simp [hbe] at h
      | true =>
        simp only [hbe, cond_true] at h
        simp only [Bool.and_eq_true] at hbe
        obtain ⟨⟨hke, hkw⟩, hl⟩ := hbe
        have hke := Nat.eq_of_beq_eq_true hke
        have hl := Nat.le_of_ble_eq_true hl
        split at h
        · rename_i x0 hcs
          simp only [Option.some.injEq, Prod.mk.injEq] at h
          obtain ⟨rfl, rfl⟩ := h
          rw [RL] at hr
          obtain ⟨y1, ys1, rfl, hr1, hr2⟩ := hr
          obtain ⟨y2, rfl, hr3⟩ := hr2.single
          rw [R] at hr1
          subst hr1
          rw [R] at hr3
          obtain ⟨g, hg, rfl, cur0, e0, fz0, hcur0⟩ := hr3
          obtain ⟨cur, xs, hcur, hxs, hpre, hwh⟩ := ok.cells (e := k.e) (cs := k.cs) (wh := k.whole) hb hg hcur0
          rw [hcs] at hxs hwh
          obtain ⟨x1, rfl, hx1⟩ := hxs.single
          rw [R] at hx1
          subst hx1
          have hsz : cur.size = 1 := by simpa using hwh hkw
          have hcu : cur = #[.bool x0] := by
            obtain ⟨t, ht⟩ := hpre
            apply Array.ext'
            have : t = [] := by
              have := congrArg List.length ht
              simp [hsz] at this
              exact this
            subst this
            simpa using ht.symm
          subst hcu
          obtain ⟨-, -, t4, p4, hc4⟩ := ok.glob.2 _ h4
          obtain ⟨-, -, t5, p5, hc5⟩ := ok.glob.2 _ h5
          have hglt : g < c.w.heap.size := (Array.getElem?_eq_some_iff.1 hcur).1
          have hnil : ∀ (x : Value) (w : World), (binOp BinOp.neq 93 (.iface 250 x) .nilIface).run Tryz.prog w = .ok (.bool true) w := fun _ _ => by kernel_rfl
          have hnil' : ∀ (w : World), (binOp BinOp.neq 93 .nilIface .nilIface).run Tryz.prog w = .ok (.bool false) w := fun _ => by kernel_rfl
          show Go.Calls Tryz.prog 99 #[.string s, .pointer (some ⟨g, 0, none⟩)] c.w _
          have fin : ∀ (w' : World) (u : Int), Grow c.w w' → Back T c (.v (.int .u8 u)) (c.H.set b (some ⟨k.e, [.v (.bool false)], k.whole⟩)) (.returned (.int .u8 u)) (w'.setCell ⟨g, 0, none⟩ (.bool false)) := by
            intro w' u hb'
            obtain ⟨ht, hok⟩ := ok.grow hb'
            have hcur' : w'.heap[g]? = some (.cells #[.bool x0] k.e (0, 0)) := (hb'.block g hglt).trans hcur
            obtain ⟨c', k1, k2, k3, k4, k5⟩ := setBlk (c := ⟨c.ρ, c.own, c.H, w'⟩) (cs' := [.v (.bool false)]) (cur' := #[.bool false]) (xs' := [.bool false]) hok hb hg hcur' (RL.exact [.bool false]) (by simp) rfl (fun _ => rfl)
            refine ⟨_, c', rfl, ?_, k1, ht.trans k3, k4, by rw [R]⟩
            rw [k2, setCell_row hcur']
            rfl
          cases hp : Lib.parseUintB 8 s.data.toList with
          | ok u =>
            have hu := numF_le hp
            have hn : numF s = some u := by unfold numF; rw [hp]
            rw [hn]
            go_enter Tryz.func99, Tryz.ntmps99
            go_wp2_with (go_at_call 65; refine (Tryz.strconv_ParseUint_10_at8_ok s (by omega) u hp _).mono ?_; rintro e w' ⟨rfl, hw⟩)
            go_ret
            have hgr : Grow c.w w' := by
              rcases hw with rfl | rfl
              · exact Below.refl _ _
              · exact Lib.bytesWorld_below _ _ _
            obtain ⟨ht, hok⟩ := ok.grow hgr
            have hset : c.H.set b (some ⟨k.e, [.v (.bool (x0 && (some u).isSome))], k.whole⟩) = c.H := by
              have : (⟨k.e, [.v (.bool (x0 && (some u).isSome))], k.whole⟩ : Blk) = k := by
                cases k
                simp only at hcs
                subst hcs
                simp
              rw [this]
              obtain ⟨hlt, hk⟩ := List.getElem?_eq_some_iff.1 hb
              rw [← hk]
              exact List.set_getElem_self hlt
            rw [hset]
            exact ⟨_, ⟨c.ρ, c.own, c.H, w'⟩, rfl, rfl, rfl, ht, hok, by rw [R]; rfl⟩
          | range =>
            have hn : numF s = none := by unfold numF; rw [hp]
            rw [hn]
            go_enter Tryz.func99, Tryz.ntmps99
            go_wp2_with (go_at_call 65; refine (Tryz.strconv_ParseUint_10_at8_range s hl hp _ _ hc5 (.inr ⟨_, _, rfl⟩)).mono ?_; rintro e w' ⟨N, rfl, -, -, hb'⟩; have hcur' := (hb'.block g hglt).trans hcur; have hcell : w'.cell? ⟨g, 0, none⟩ = some (.bool x0) := (by rw [cell_of_row w' g 0 _ _ _ hcur']; rfl); have hfro : w'.frozen? ⟨g, 0, none⟩ = false := (by simp [World.frozen?, hcur']))
            go_ret
            simpa using fin w' 0 hb'
          | _ =>
            have hn : numF s = none := by unfold numF; rw [hp]
            rw [hn]
            go_enter Tryz.func99, Tryz.ntmps99
            go_wp2_with (go_at_call 65; refine (Tryz.strconv_ParseUint_10_at8_syntax s hl hp _ _ hc4 (.inr ⟨_, _, rfl⟩)).mono ?_; rintro e w' ⟨N, rfl, -, -, hb'⟩; have hcur' := (hb'.block g hglt).trans hcur; have hcell : w'.cell? ⟨g, 0, none⟩ = some (.bool x0) := (by rw [cell_of_row w' g 0 _ _ _ hcur']; rfl); have hfro : w'.frozen? ⟨g, 0, none⟩ = false := (by simp [World.frozen?, hcur']))
            go_ret
            simpa using fin w' 0 hb'
        · cases h
    · cases h
  · cases h

/-! What the evaluator is given. -/
def xLibs (f : FuncId) (zs : List A) : Option A :=
  bif Nat.beq f 69 then joinX zs else bif Nat.beq f 40 then itoaX zs else bif Nat.beq f 38 then numX zs else xLib f zs
theorem known_q {T : Tb} {P : Program} {f : FuncId} {zs : List A} {r : A} (he : Enters P f) (h : KnownQ T P f zs r) : AtOnce P f zs r ∨ Enters P f ∧ KnownQ T P f zs r := .inr ⟨he, h⟩
theorem xLibs_ok {T : Tb} (h10 : T.gl.tab 6 = some (Lib.pow10Tab.map fun z => .int .u64 z)) (h4 : T.gl.ifs 4 = true) (h5 : T.gl.ifs 5 = true) : QOk T Tryz.prog xLibs := by
  intro f zs r h
  unfold xLibs at h
  cases h1 : Nat.beq f 69 with
  | true =>
    obtain rfl := Nat.eq_of_beq_eq_true h1
    rw [h1, cond_true] at h
    exact known_q (enters_fn Tryz.func69 rfl (by decide)) (join_ok h)
  | false =>
    rw [h1, cond_false] at h
    cases h2 : Nat.beq f 40 with
    | true =>
      obtain rfl := Nat.eq_of_beq_eq_true h2
      rw [h2, cond_true] at h
      exact known_q (enters_fn Tryz.func40 rfl (by decide)) (itoa_ok h10 h)
    | false =>
      rw [h2, cond_false] at h
      cases h3 : Nat.beq f 38 with
      | true =>
        obtain rfl := Nat.eq_of_beq_eq_true h3
        rw [h3, cond_true] at h
        exact known_q (enters_fn Tryz.func38 rfl (by decide)) (num_ok h4 h5 h)
      | false =>
        rw [h3, cond_false] at h
        exact xLib_ok f zs r h
def xOut0 (f : FuncId) : Option (List A → Heap → Option (A × Heap)) :=
  bif Nat.beq f 45 then some ccO else bif Nat.beq f 99 then some numO else none
theorem xOut0_ok {T : Tb} (h4 : T.gl.ifs 4 = true) (h5 : T.gl.ifs 5 = true) : ∀ f g zs H x H', xOut0 f = some g → g zs H = some (x, H') → FnOut T Tryz.prog f zs H x H' := by
  intro f g zs H x H' hg h
  unfold xOut0 at hg
  cases h1 : Nat.beq f 45 with
  | true =>
    obtain rfl := Nat.eq_of_beq_eq_true h1
    rw [h1, cond_true] at hg
    obtain rfl := Option.some.inj hg
    exact cc_ok h
  | false =>
    rw [h1, cond_false] at hg
    cases h2 : Nat.beq f 99 with
    | true =>
      obtain rfl := Nat.eq_of_beq_eq_true h2
      rw [h2, cond_true] at hg
      obtain rfl := Option.some.inj hg
      exact numO_ok h4 h5 h
    | false => simp [h2] at hg
def ifs34 (g : Nat) : Bool := Nat.beq g 4 || Nat.beq g 5
end Go.Proofs.YtijpomemobgddaaGreatDoor.Ev
