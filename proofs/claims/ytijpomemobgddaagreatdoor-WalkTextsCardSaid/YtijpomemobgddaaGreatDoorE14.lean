/- The evaluator's operations on live blocks are the model's: copy; all of them together. What is held of a live block as a value. -/
import Derived.Test.YtijpomemobgddaaGreatDoorE12
import Derived.Laws.RangeString
set_option linter.unusedSimpArgs false
set_option linter.unusedVariables false
namespace Go.Proofs.YtijpomemobgddaaGreatDoor.Ev
open Go Go.RowKit
variable {P : Program} {T : Tb}
section
variable {c : Cfg} {e : Env} {a : Act} {o : Oper} {x : A} {H' : Heap}

theorem copy_ok (hT : TOk P T) (ok : Ok T.gl c) (he : EnvR c e a) {cl : Call} (ho : o.op = .call cl) (hc : cl.callee = .builtin .copy) (h : loudOp T e c.H (.call cl) = some (x, H')) : Makes T P c a o x H' := by
  simp only [loudOp, hc] at h
  have hx : execOp a.eval o = (do pure (.value (← Builtin.copy_ cl.argTypes o.type (cl.args.map a.eval))) : Sem Next) := by simp [execOp, ho, resolve, hc, invoke, builtin]
  split at h
  · rename_i s u ty hargs hty
    cases ht : cl.argTypes[0]? with
    | none => simp [ht] at hty
    | some t =>
      simp only [ht, Option.bind_some] at hty
      split at h
      · rename_i el hk
        split at h
        · rename_i te hte
          split at h
          · rename_i m news hsrc
            obtain ⟨d, hd, hkd⟩ := (hT.facts hty).desc
            rw [hk] at hkd
            obtain rfl := kOf_slice hkd
            have hrl := he.opnds hargs
            rw [RL] at hrl
            obtain ⟨y1, ys, hys, hr1, hr2⟩ := hrl
            obtain ⟨y2, rfl, hr3⟩ := hr2.single
            have hargs' : cl.args.map a.eval = #[y1, y2] := by
              apply Array.ext'
              simpa using hys
            rw [hargs'] at hx
            have none_ : ∀ (ad : Option Addr) (cap : Nat) (k : Nat), (∀ w, (Builtin.lenOf y2).run P w = .ok k w) → (Builtin.firstCells te.size 0 y2).run P c.w = .ok #[] c.w → y1 = .slice ad 0 cap → (Builtin.copy_ cl.argTypes o.type #[y1, y2]).run P c.w = .ok (.int .i64 0) c.w := by
              intro ad cap k h1 h2 h3
              subst h3
              cases ad <;> simp [Builtin.copy_, ht, run_underlying hd, (hT.facts hte).run_sizeOf, h1, Nat.min_zero, h2, storeCells, goInt]
            have len0 : ∃ k, (∀ w, (Builtin.lenOf y2).run P w = .ok k w) ∧ (Builtin.firstCells te.size 0 y2).run P c.w = .ok #[] c.w := by
              unfold loudOp.srcL at hsrc
              split at hsrc
              · simp only [R] at hr3
                rcases hr3 with ⟨-, -, ad, cap, rfl⟩ | ⟨g, off, cap, xs, rfl, -⟩
                · exact ⟨_, fun w => by simp [Builtin.lenOf]; rfl, by cases ad <;> simp [Builtin.firstCells, loadCells, loadCellsFrom]⟩
                · exact ⟨_, fun w => by simp [Builtin.lenOf]; rfl, by simp [Builtin.firstCells, loadCells, loadCellsFrom]⟩
              · simp only [R] at hr3
                subst hr3
                exact ⟨_, fun w => by simp [Builtin.lenOf]; rfl, by simp [Builtin.firstCells]⟩
              · simp only [R] at hr3
                obtain ⟨g, cap, cur0, e0, fz0, hg, rfl, -⟩ := hr3
                exact ⟨_, fun w => by simp [Builtin.lenOf]; rfl, by simp [Builtin.firstCells, loadCells, loadCellsFrom]⟩
              · cases hsrc
            split at h
            · rename_i b off n sz
              split at h
              · rename_i k hb
                split at h
                · rename_i hcd
                  simp only [Option.some.injEq, Prod.mk.injEq] at h
                  obtain ⟨rfl, rfl⟩ := h
                  obtain ⟨rfl, d2, d3, d4⟩ := hcd
                  obtain ⟨hlen, vs, hvs, hfirst⟩ := srcL_ok (P := P) ok hsrc d2 hr3
                  have hf0 := hfirst (min m n) c.w (Nat.min_le_left _ _) (fun _ => rfl)
                  simp only [R] at hr1
                  obtain ⟨g, cap, cur0, e0, fz0, hg, rfl, hn, hcap, hcur0, hsum⟩ := hr1
                  obtain ⟨cur, xs, hcur, hxs, hlie, hpre, hwh⟩ := ok.lies hb hg ⟨cur0, e0, fz0, hcur0⟩
                  have hxl := hxs.length
                  have hnew := hvs.take (min m n * te.size)
                  have hone := ones_ok hnew d4
                  have hvl : (vs.take (min m n * te.size)).length = min m n * te.size := by
                    rw [List.length_take, hvs.length, d2]
                    have : min m n * te.size ≤ m * te.size := Nat.mul_le_mul_right _ (Nat.min_le_left _ _)
                    omega
                  have hcl : k.cs.length ≤ cur.size := by rw [← hxl]; simpa using hpre.length_le
                  have hst := run_storeCells_at (P := P) g off k.e (vs.take (min m n * te.size)) 0 cur c.w hcur (by omega) hone
                  obtain ⟨t', ht'⟩ := hpre
                  have hlist : cur.toList.take (off + 0) ++ vs.take (min m n * te.size) ++ cur.toList.drop (off + 0 + (vs.take (min m n * te.size)).length) = (xs.take off ++ vs.take (min m n * te.size) ++ xs.drop (off + min m n * te.size)) ++ t' := by
                    rw [← ht', hvl]
                    simp only [Nat.add_zero]
                    rw [List.take_append_of_le_length (by omega), List.drop_append_of_le_length (by omega)]
                    simp [List.append_assoc]
                  rw [hlist] at hst
                  obtain ⟨c', k1, k2, k3, k4, -⟩ := setBlk (cur' := ((xs.take off ++ vs.take (min m n * te.size) ++ xs.drop (off + min m n * te.size)) ++ t').toArray) ok hb hg hcur (((hxs.take off).append hnew).append (hxs.drop (off + min m n * te.size))) (by simp) (by
                      have := congrArg List.length ht'
                      simp only [List.length_append, Array.length_toList] at this
                      simp only [List.size_toArray, List.length_append, hvl, List.length_drop, List.length_take]
                      omega) (by
                      intro hw
                      have := hwh hw
                      have h2 := congrArg List.length ht'
                      have h3 := hnew.length
                      rw [hvl] at h3
                      simp only [List.length_append, Array.length_toList] at h2
                      simp only [List.size_toArray, List.length_append, hvl, List.length_drop, List.length_take] at h3 ⊢
                      omega)
                  refine Makes.mk hx (y := .int .i64 (min m n : Nat)) ?_ k1 k3 k4 (by rw [R])
                  rw [k2]
                  have hmn : Nat.min m n = min m n := rfl
                  simp [Builtin.copy_, ht, run_underlying hd, (hT.facts hte).run_sizeOf, hlen, hmn, hf0, hst, goInt]
                · cases h
              · cases h
            · simp only [Option.some.injEq, Prod.mk.injEq] at h
              obtain ⟨rfl, rfl⟩ := h
              simp only [R] at hr1
              obtain ⟨k, h1, h2⟩ := len0
              exact Makes.mk hx (none_ none 0 k h1 h2 hr1) rfl (To.refl c) ok (by rw [R])
            · simp only [Option.some.injEq, Prod.mk.injEq] at h
              obtain ⟨rfl, rfl⟩ := h
              obtain ⟨k, h1, h2⟩ := len0
              simp only [R] at hr1
              rcases hr1 with ⟨-, -, ad, cap, hr1⟩ | ⟨g, off, cap, xs, hr1, -⟩
              · exact Makes.mk hx (none_ ad cap k h1 h2 hr1) rfl (To.refl c) ok (by rw [R])
              · exact Makes.mk hx (none_ _ cap k h1 h2 hr1) rfl (To.refl c) ok (by rw [R])
            · cases h
          · cases h
        · cases h
      · cases h
  · cases h

theorem RL.setE {ρ : List Nat} {own : Nat → Prop} {w : World} {key v : Value} {a0 : A} (ha : R ρ own w a0 v) : ∀ (es : List MapEntry) (cs : List A) (k : Nat) (e0 : MapEntry), RL ρ own w cs (flatE es) → es[k]? = some e0 → e0.key = key → RL ρ own w (cs.set (2 * k + 1) a0) (flatE (es.modify k fun e => { e with key := key, val := v }))
  | [], _, _, _, _, h, _ => by simp at h
  | e1 :: es, cs, k, e0, h, he, hk => by
    rw [flatE_cons] at h
    cases cs with
    | nil => rw [RL] at h; cases h
    | cons z cs =>
      cases cs with
      | nil =>
        have hl := h.length
        simp at hl
      | cons z1 cs =>
        rw [RL] at h
        obtain ⟨_, _, h0, h1, h⟩ := h
        injection h0 with h01 h02
        subst h01
        subst h02
        rw [RL] at h
        obtain ⟨_, _, h0, h2, h⟩ := h
        injection h0 with h01 h02
        subst h01
        subst h02
        cases k with
        | zero =>
          simp only [List.getElem?_cons_zero, Option.some.injEq] at he
          subst he
          subst hk
          simp only [List.modify_zero_cons, flatE_cons, Nat.mul_zero, Nat.zero_add, List.set_cons_succ, List.set_cons_zero]
          exact RL.cons h1 (RL.cons ha h)
        | succ k =>
          simp only [List.getElem?_cons_succ] at he
          rw [show 2 * (k + 1) + 1 = (2 * k + 1) + 1 + 1 by omega, List.set_cons_succ, List.set_cons_succ, List.modify_succ_cons, flatE_cons]
          exact RL.cons h1 (RL.cons h2 (RL.setE ha es cs k e0 h he hk))

theorem makeMap_ok (hT : TOk P T) (ok : Ok T.gl c) {t : TypeId} {r : Option Operand} (ho : o.op = .makeMap t r) (h : loudOp T e c.H (.makeMap t r) = some (x, H')) : Makes T P c a o x H' := by
  cases r with
  | some r => simp [loudOp] at h
  | none =>
    simp only [loudOp] at h
    have hx : execOp a.eval o = (do pure (.value (← Instr.makeMap t none)) : Sem Next) := by simp only [execOp, ho, Option.map_none]
    split at h
    · split at h
      · simp only [Option.some.injEq, Prod.mk.injEq] at h
        obtain ⟨rfl, rfl⟩ := h
        obtain ⟨c', h1, h2, h3, h4, h5, h6⟩ := newMap (w' := c.w.alloc (.map #[] 0)) (e := t) (wh := true) (cs := []) (es := #[]) (n := 0) ok (.inl rfl) RL.nil ⟨rfl, by simp⟩
        refine Makes.mk hx (y := .map (some c.w.heap.size)) ?_ h1 h3 h4 (by rw [R]; exact ⟨_, h5, rfl, _, _, h6⟩)
        rw [h2]
        simp [Instr.makeMap]
      · cases h
    · cases h

theorem range_ok (hT : TOk P T) (ok : Ok T.gl c) (he : EnvR c e a) {t : TypeId} {p : Operand} (ho : o.op = .range t p) (h : loudOp T e c.H (.range t p) = some (x, H')) : Makes T P c a o x H' := by
  simp only [loudOp] at h
  have hx : execOp a.eval o = (do pure (.value (← Instr.range t (a.eval p))) : Sem Next) := by simp only [execOp, ho]
  split at h
  · rename_i ty s hty hp
    split at h
    · rename_i hk
      simp only [Option.some.injEq, Prod.mk.injEq] at h
      obtain ⟨rfl, rfl⟩ := h
      obtain ⟨d, hd, hd1⟩ := (hT.facts hty).desc
      rw [hk] at hd1
      obtain rfl := kOf_str hd1
      have hr := he.opnd hp
      rw [R] at hr
      obtain ⟨c', h1, h2, h3, h4, h5, h6⟩ := newSp (cs := [.its s 0]) (o := .stringIter s 0) ok fun _ _ _ _ h => .inr (.inr (.inr ⟨s, 0, h, rfl⟩))
      refine Makes.mk hx (y := .pointer (some ⟨c.w.heap.size, 0, none⟩)) ?_ h1 h3 h4 (by rw [R]; exact ⟨_, h5, rfl, _, _, h6⟩)
      rw [hr, h2]
      exact run_range_string _ _ _ hd
    · cases h
  · cases h
theorem next_ok (ok : Ok T.gl c) (he : EnvR c e a) {p : Operand} {b : Bool} (ho : o.op = .next p b) (h : loudOp T e c.H (.next p b) = some (x, H')) : Makes T P c a o x H' := by
  cases b with
  | false => simp [loudOp] at h
  | true =>
    simp only [loudOp, cond_true, nextA] at h
    have hx : execOp a.eval o = (do pure (.value (← Instr.next (a.eval p) true o.type)) : Sem Next) := by simp only [execOp, ho]
    split at h
    · rename_i b hp
      split at h
      · rename_i k hb
        split at h
        · rename_i s pos hcs
          have hr := he.opnd hp
          rw [R] at hr
          obtain ⟨g, hg, hy, s', p', hit⟩ := hr
          have hst : c.w.heap[g]? = some (.stringIter s pos) := by
            rcases ok.blk b k.e k.cs k.whole g hb hg with ⟨cur, xs, h1, -⟩ | ⟨es, n, h1, -⟩ | ⟨r, nt, ps, sl, ma, mb, rest, h1, -⟩ | ⟨s1, p1, h1, h2⟩
            · rw [hit] at h1
              cases h1
            · rw [hit] at h1
              cases h1
            · rw [hit] at h1
              cases h1
            · rw [hcs] at h2
              simp only [List.cons.injEq, A.its.injEq, and_true] at h2
              obtain ⟨rfl, rfl⟩ := h2
              exact h1
          split at h
          · rename_i u hu
            have hlt : pos < s.size := by
              by_cases hlt : pos < s.size
              · exact hlt
              · rw [getElem?_neg s pos hlt] at hu
                cases hu
            have hu' : s[pos]'hlt = u := by
              rw [getElem?_pos s pos hlt] at hu
              exact Option.some.inj hu
            cases hasc : Nat.blt u.toNat 128 with
            | false => simp [hasc] at h
            | true =>
              simp only [hasc, cond_true, Option.some.injEq, Prod.mk.injEq] at h
              obtain ⟨rfl, rfl⟩ := h
              have ha : (s[pos]'hlt).toNat < 128 := by
                rw [hu']
                exact Nat.le_of_ble_eq_true hasc
              obtain ⟨c', h1, h2, h3, h4, -⟩ := setSp (cs := [.its s (pos + 1)]) (o' := .stringIter s (pos + 1)) ok hb hg hst (by simp [okind]) rfl fun _ _ _ _ h => .inr (.inr (.inr ⟨s, _, h, rfl⟩))
              refine Makes.mk hx (y := .tuple #[.bool true, .int .i64 pos, .int .i32 u.toNat]) ?_ h1 h3 h4 (by rw [R]; exact ⟨[.bool true, .int .i64 pos, .int .i32 u.toNat], rfl, RL.cons (by rw [R]) (RL.cons (by rw [R]) (RL.cons (by rw [R]) RL.nil))⟩)
              rw [hy, h2]
              simp only [Instr.next, getObj, setObj, Sem.run_bind, Sem.run, hst, Result.andThen, hlt, if_true, decode_ascii s pos hlt ha, hu']
              simp [goInt, World.putObj]
          · rename_i hu
            simp only [Option.some.injEq, Prod.mk.injEq] at h
            obtain ⟨rfl, rfl⟩ := h
            have hlt : ¬ pos < s.size := by
              intro hlt
              rw [getElem?_pos s pos hlt] at hu
              cases hu
            refine Makes.mk hx (y := .tuple #[.bool false]) ?_ rfl (To.refl c) ok (by rw [R]; exact ⟨[.bool false], rfl, RL.cons (by rw [R]) RL.nil⟩)
            rw [hy]
            simp [Instr.next, getObj, Sem.run, hst, hlt]
        · cases h
      · cases h
    · cases h

theorem keyStays {kd : K} {key : Value} (hk : isKey kd key = true) (w : World) : (Instr.keyThatStays key key).run P w = .ok key w := by
  have : Instr.sameBits 10000 key key = true := by
    cases key <;> first
      | (cases kd <;> simp [isKey] at hk; done)
      | (simp [Instr.sameBits]; done)
      | (show (_ == _) = true; exact beq_self_eq_true (α := Array UInt8) _)
  simp [Instr.keyThatStays, this]

theorem Ok.mapAt {Gd : GD} {c : Cfg} (ok : Ok Gd c) {b g : Nat} {k : Blk} (hb : c.H[b]? = some (some k)) (hg : c.ρ[b]? = some g) {es0 : Array MapEntry} {n0 : Nat} (hm : c.w.heap[g]? = some (.map es0 n0)) :
    ∃ es n, c.w.heap[g]? = some (.map es n) ∧ RL c.ρ c.own c.w k.cs (flatE es.toList) ∧ Born es n := by
  rcases ok.blk b k.e k.cs k.whole g hb hg with ⟨cur, xs, h1, -⟩ | ⟨es', n', h1, h2⟩ | ⟨r', nt', ps', sl', a', b', rest', h1, -⟩ | ⟨s', p', h1, -⟩
  · rw [hm] at h1
    cases h1
  · exact ⟨es', n', h1, h2⟩
  · rw [hm] at h1
    cases h1
  · rw [hm] at h1
    cases h1
theorem Born.push {es : Array MapEntry} {n : Nat} (h : Born es n) {k v : Value} : Born (es.push { key := k, val := v, born := n }) (n + 1) := by
  obtain ⟨rfl, h2⟩ := h
  refine ⟨by simp, fun i e he => ?_⟩
  rw [Array.getElem?_push] at he
  split at he
  · rename_i hi
    obtain rfl := Option.some.inj he
    exact hi.symm
  · exact h2 i e he
theorem Born.modify {es : Array MapEntry} {n : Nat} (h : Born es n) {i : Nat} {f : MapEntry → MapEntry} (hf : ∀ e, (f e).born = e.born) : Born (es.modify i f) n := by
  refine ⟨by rw [h.1]; simp, fun j e he => ?_⟩
  rw [Array.getElem?_modify] at he
  split at he
  · rw [Option.map_eq_some_iff] at he
    obtain ⟨e0, h0, rfl⟩ := he
    rw [hf]
    exact h.2 j e0 h0
  · exact h.2 j e he
theorem flatE_length (es : List MapEntry) : (flatE es).length = 2 * es.length := by
  induction es with
  | nil => rfl
  | cons e0 es ih => rw [flatE_cons]; simp [ih]; omega
theorem entryA_ok (hT : TOk P T) (ok : Ok T.gl c) (he : EnvR c e a) {t : TypeId} {m k : Operand} (ho : o.op = .mapEntry t m k) (h : entryA T e c.H t m k = some (x, H')) : Makes T P c a o x H' := by
  have hx : execOp a.eval o = (do pure (.value (← Instr.mapEntry t (a.eval m) (a.eval k))) : Sem Next) := by simp only [execOp, ho]
  unfold entryA at h
  split at h
  · rename_i ty b key hty hm hk
    split at h
    · rename_i kt et blk hkd hb
      split at h
      · rename_i tk z htk hz
        obtain ⟨d, hd, hd1⟩ := (hT.facts hty).desc
        rw [hkd] at hd1
        obtain rfl := kOf_map hd1
        obtain ⟨dk, hdk, hdk1⟩ := (hT.facts htk).desc
        obtain ⟨kv, hk1, hk2⟩ := Option.bind_eq_some_iff.1 hk
        have hkr := keyA_ok hk2 (he.opnd hk1)
        obtain ⟨te, hte, hz1⟩ := Option.bind_eq_some_iff.1 hz
        have hmr := he.opnd hm
        rw [R] at hmr
        obtain ⟨g, hg, hmy, es0, n0, hm0⟩ := hmr
        obtain ⟨es, n, hes, hrl, hbn⟩ := ok.mapAt hb hg hm0
        rw [hmy, hkr] at hx
        have hnew : ∀ (zv : Value), (zeroValue et).run P c.w = .ok zv c.w → R c.ρ c.own c.w z zv → (∀ b w, (Instr.checkKey b 10000 kt key).run P w = .ok () w) → Instr.findNow dk key es.toList 0 = some none →
            Makes T P c a o (.tup [z, .v (.int .i64 (blk.cs.length / 2 : Nat))]) (c.H.set b (some ⟨blk.e, blk.cs ++ [.v key, z], blk.whole⟩)) := by
          intro zv hzv hzr hchk hf
          have hrl' : RL c.ρ c.own c.w (blk.cs ++ [.v key, z]) (flatE (es.push { key := key, val := zv, born := n }).toList) := by
            simp only [Array.toList_push, flatE, List.flatMap_append]
            exact RL.append hrl (RL.cons (by rw [R]) (RL.cons hzr RL.nil))
          obtain ⟨c', k1, k2, k3, k4, -⟩ := setMap (n' := n + 1) ok hb hg hes hrl' hbn.push
          have hn2 : n = blk.cs.length / 2 := by
            have := hrl.length
            rw [flatE_length] at this
            rw [hbn.1]
            simp at this
            omega
          refine Makes.mk hx (y := .tuple #[zv, goInt n]) ?_ k1 k3 k4 ?_
          · rw [k2]
            simp only [Instr.mapEntry, Sem.run_bind, run_underlying hd, Result.andThen_ok, MapKept.run_getObj_map hes, hchk, run_findKey hdk hf, hzv, MapKept.run_setObj_map _ hes, Sem.run_pure]
          · rw [R]
            refine ⟨[zv, goInt n], rfl, RL.cons (hzr.to k3 ok) (RL.cons ?_ RL.nil)⟩
            rw [R, hn2]
            rfl
        split at h
        · rename_i hcs
          split at h
          · rename_i hkey
            simp only [Option.some.injEq, Prod.mk.injEq] at h
            obtain ⟨rfl, rfl⟩ := h
            obtain ⟨zv, hzv, hzr⟩ := zeroA_ok (hT.facts hte) hz1 c.w (ρ := c.ρ) (own := c.own) (w0 := c.w)
            have hes0 : es.toList = [] := by
              have := hrl.length
              rw [flatE_length, hcs] at this
              exact List.eq_nil_of_length_eq_zero (by simp only [List.length_nil] at this; omega)
            have := hnew zv hzv hzr (fun b w => keyOk_check hT htk hkey b w) (by rw [hes0]; rfl)
            rw [hcs] at this
            exact this
          · cases h
        · split at h
          · rename_i hkey
            have hchk : ∀ b w, (Instr.checkKey b 10000 kt key).run P w = .ok () w := fun b w => isKey_check hdk hdk1 hkey b w 9999
            split at h
            · rename_i hf
              simp only [Option.some.injEq, Prod.mk.injEq] at h
              obtain ⟨rfl, rfl⟩ := h
              obtain ⟨zv, hzv, hzr⟩ := zeroA_ok (hT.facts hte) hz1 c.w (ρ := c.ρ) (own := c.own) (w0 := c.w)
              rcases findA_ok hdk1 hkey es.toList blk.cs 0 _ hf hrl with ⟨-, h2⟩ | ⟨k1, a1, e1, h1, -⟩
              · exact hnew zv hzv hzr hchk h2
              · cases h1
            · rename_i i z1 hf
              simp only [Option.some.injEq, Prod.mk.injEq] at h
              obtain ⟨rfl, rfl⟩ := h
              rcases findA_ok hdk1 hkey es.toList blk.cs 0 _ hf hrl with ⟨h1, -⟩ | ⟨k1, a1, e1, h1, h2, h3, h4, h5⟩
              · cases h1
              · simp only [Option.some.injEq, Prod.mk.injEq, Nat.zero_add] at h1
                obtain ⟨rfl, rfl⟩ := h1
                simp only [Nat.zero_add] at h2
                have h3' : es[i]? = some e1 := by simpa using h3
                have hat : ((es[i]?).map (·.key)).getD key = key := by simp [h3', h5]
                have hbo : ((es[i]?).map (fun x => (x.born : Int))).getD 0 = i := by simp [h3', hbn.2 i e1 h3']
                have hsame : es.modify i (fun e => { e with key := key }) = es := by
                  apply Array.ext_getElem?
                  intro j
                  rw [Array.getElem?_modify]
                  split
                  · rename_i hij
                    subst hij
                    rw [h3', Option.map_some, ← h5]
                  · rfl
                have hrl' : RL c.ρ c.own c.w blk.cs (flatE (es.modify i fun e => { e with key := key }).toList) := by rw [hsame]; exact hrl
                obtain ⟨c', k1, k2, k3, k4, -⟩ := setMap (n' := n) ok hb hg hes hrl' (by rw [hsame]; exact hbn)
                refine Makes.mk hx (y := .tuple #[e1.val, goInt i]) ?_ k1 k3 k4 ?_
                · rw [k2]
                  simp only [Instr.mapEntry, Sem.run_bind, run_underlying hd, Result.andThen_ok, MapKept.run_getObj_map hes, hchk, run_findKey hdk h2, hat, keyStays hkey, MapKept.run_setObj_map _ hes, Sem.run_pure, hbo]
                · rw [R]
                  refine ⟨[e1.val, goInt i], rfl, RL.cons (h4.to k3 ok) (RL.cons ?_ RL.nil)⟩
                  rw [R]
                  rfl
            · cases h
          · cases h
      · cases h
    · cases h
  · cases h
theorem storeE_ok (ok : Ok T.gl c) (he : EnvR c e a) {t : TypeId} {m s v : Operand} (ho : o.op = .entryStore t m s v) (h : storeE e c.H m s v = some (x, H')) : Makes T P c a o x H' := by
  have hx : execOp a.eval o = (do Instr.entryStore t (a.eval m) (a.eval s) (a.eval v); pure .skip : Sem Next) := by simp only [execOp, ho]
  unfold storeE at h
  split at h
  · rename_i b k i a0 hm hs hv
    split at h
    · rename_i blk hb
      split at h
      · rename_i hi
        simp only [Option.some.injEq, Prod.mk.injEq] at h
        obtain ⟨rfl, rfl⟩ := h
        have hmr := he.opnd hm
        rw [R] at hmr
        obtain ⟨g, hg, hmy, es0, n0, hm0⟩ := hmr
        obtain ⟨es, n, hes, hrl, hbn⟩ := ok.mapAt hb hg hm0
        have hsr := he.opnd hs
        rw [R] at hsr
        have har := he.opnd hv
        have hl := hrl.length
        rw [flatE_length] at hl
        have hlt : i.toNat < es.size := by simp at hl; omega
        have hei : es[i.toNat]? = some es[i.toNat] := Array.getElem?_eq_getElem hlt
        have hfi : es.findIdx? (fun e => (e.born : Int) == i) = some i.toNat := by
          rw [Array.findIdx?_eq_some_iff_getElem]
          refine ⟨hlt, ?_, fun j hj => ?_⟩
          · rw [hbn.2 i.toNat _ hei]
            simp
            omega
          · have := hbn.2 j _ (Array.getElem?_eq_getElem (by omega : j < es.size))
            rw [this]
            simp
            omega
        have hrl' : RL c.ρ c.own c.w (blk.cs.set (2 * i.toNat + 1) a0) (flatE (es.modify i.toNat fun e => { e with val := a.eval v }).toList) := by
          have h1 := RL.setE (key := es[i.toNat].key) har es.toList blk.cs i.toNat es[i.toNat] hrl (by simp [hlt]) rfl
          have h2 : es.modify i.toNat (fun e => { e with val := a.eval v }) = es.modify i.toNat (fun e => { e with key := es[i.toNat].key, val := a.eval v }) := by
            apply Array.ext_getElem?
            intro j
            rw [Array.getElem?_modify, Array.getElem?_modify]
            split
            · rename_i hij
              subst hij
              rw [hei]
              rfl
            · rfl
          rw [h2, Array.toList_modify]
          exact h1
        obtain ⟨c', k1, k2, k3, k4, -⟩ := setMap (n' := n) ok hb hg hes hrl' (hbn.modify (fun _ => rfl))
        refine ⟨.skip, undef, c', ?_, .inr ⟨rfl, rfl⟩, k1, k3, k4, by rw [R]⟩
        rw [hx, hmy, hsr, k2]
        simp only [Instr.entryStore, Sem.run_bind, Result.andThen_ok, MapKept.run_getObj_map hes, asInt, asIntOf, hfi, MapKept.run_setObj_map _ hes, Sem.run_pure]
      · cases h
    · cases h
  · cases h

theorem putMap_ok (hT : TOk P T) (ok : Ok T.gl c) (he : EnvR c e a) {t : TypeId} {m k v : Operand} (ho : execOp a.eval o = (do Instr.mapUpdate t (a.eval m) (a.eval k) (a.eval v); pure .skip : Sem Next)) (h : putMap T e c.H t m k v = some (x, H')) : Makes T P c a o x H' := by
  unfold putMap at h
  split at h
  · rename_i ty b key a0 hty hm hk hv
    split at h
    · rename_i kt et blk hkd hb
      split at h
      · rename_i tk htk
        split at h
        · rename_i hkey
          obtain ⟨d, hd, hd1⟩ := (hT.facts hty).desc
          rw [hkd] at hd1
          obtain rfl := kOf_map hd1
          obtain ⟨dk, hdk, hdk1⟩ := (hT.facts htk).desc
          have hkr := he.opnd hk
          rw [R] at hkr
          have hmr := he.opnd hm
          rw [R] at hmr
          obtain ⟨g, hg, hmy, es0, n0, hm0⟩ := hmr
          obtain ⟨es, n, hes, hrl, hbn⟩ := ok.mapAt hb hg hm0
          have hchk : ∀ b w, (Instr.checkKey b 10000 kt key).run P w = .ok () w := fun b w => isKey_check hdk hdk1 hkey b w 9999
          have har := he.opnd hv
          split at h
          · rename_i hf
            simp only [Option.some.injEq, Prod.mk.injEq] at h
            obtain ⟨rfl, rfl⟩ := h
            rcases findA_ok hdk1 hkey es.toList blk.cs 0 _ hf hrl with ⟨-, h2⟩ | ⟨k1, a1, e1, h1, -⟩
            · have hrl' : RL c.ρ c.own c.w (blk.cs ++ [.v key, a0]) (flatE (es.push { key := key, val := a.eval v, born := n }).toList) := by
                simp only [Array.toList_push, flatE, List.flatMap_append]
                exact RL.append hrl (RL.cons (by rw [R]) (RL.cons har RL.nil))
              obtain ⟨c', k1, k2, k3, k4, -⟩ := setMap (n' := n + 1) ok hb hg hes hrl' hbn.push
              refine ⟨.skip, undef, c', ?_, .inr ⟨rfl, rfl⟩, k1, k3, k4, by rw [R]⟩
              rw [ho, hmy, hkr, k2]
              simp only [Instr.mapUpdate, Sem.run_bind, run_underlying hd, Result.andThen_ok, MapKept.run_getObj_map hes, hchk, run_findKey hdk h2, MapKept.run_setObj_map _ hes, Sem.run_pure]
            · cases h1
          · rename_i i z hf
            simp only [Option.some.injEq, Prod.mk.injEq] at h
            obtain ⟨rfl, rfl⟩ := h
            rcases findA_ok hdk1 hkey es.toList blk.cs 0 _ hf hrl with ⟨h1, -⟩ | ⟨k1, a1, e1, h1, h2, h3, h4, h5⟩
            · cases h1
            · simp only [Option.some.injEq, Prod.mk.injEq, Nat.zero_add] at h1
              obtain ⟨rfl, rfl⟩ := h1
              simp only [Nat.zero_add] at h2
              have hrl' : RL c.ρ c.own c.w (blk.cs.set (2 * i + 1) a0) (flatE (es.modify i fun e => { e with key := key, val := a.eval v }).toList) := by
                rw [Array.toList_modify]
                exact RL.setE har es.toList blk.cs i e1 hrl h3 h5
              obtain ⟨c', k1, k2, k3, k4, -⟩ := setMap (n' := n) ok hb hg hes hrl' (hbn.modify (fun _ => rfl))
              have hat : ((es[i]?).map (·.key)).getD key = key := by
                have : es[i]? = some e1 := by simpa using h3
                simp [this, h5]
              refine ⟨.skip, undef, c', ?_, .inr ⟨rfl, rfl⟩, k1, k3, k4, by rw [R]⟩
              rw [ho, hmy, hkr, k2]
              simp only [Instr.mapUpdate, Sem.run_bind, run_underlying hd, Result.andThen_ok, MapKept.run_getObj_map hes, hchk, run_findKey hdk h2, hat, keyStays hkey, MapKept.run_setObj_map _ hes, Sem.run_pure]
          · cases h
        · cases h
      · cases h
    · cases h
  · cases h

theorem loud_ok (hT : TOk P T) (ok : Ok T.gl c) (he : EnvR c e a) (h : loudOp T e c.H o.op = some (x, H')) : Makes T P c a o x H' := by
  cases ho : o.op <;> rw [ho] at h
  case alloc => exact alloc_ok hT ok ho h
  case box => exact box_ok ok he ho h
  case buildSlice => exact buildSlice_ok hT ok he ho h
  case store => exact store_ok hT ok he ho h
  case makeSlice => exact makeSlice_ok hT ok he ho h
  case makeMap => exact makeMap_ok hT ok ho h
  case range => exact range_ok hT ok he ho h
  case next => exact next_ok ok he ho h
  case mapEntry => exact entryA_ok hT ok he ho h
  case entryStore => exact storeE_ok ok he ho h
  case insert t m k v => exact putMap_ok (t := t) (m := m) (k := k) (v := v) hT ok he (by simp only [execOp, ho]) (by simpa only [loudOp] using h)
  case mapUpdate t m k v => exact putMap_ok (t := t) (m := m) (k := k) (v := v) hT ok he (by simp only [execOp, ho]) (by simpa only [loudOp] using h)
  case call cl =>
    cases hc : cl.callee with
    | builtin b =>
      cases b
      case append => exact append_ok hT ok he ho hc h
      case copy => exact copy_ok hT ok he ho hc h
      case unsafeString => exact unsafeString_ok hT ok he ho hc h
      all_goals (simp [loudOp, hc] at h; done)
    | value f => simp [loudOp, hc] at h
    | invoke r m => simp [loudOp, hc] at h
  all_goals (simp [loudOp] at h; done)
end

/-- What is held of a live block, stands also for those that do not have it as their own. -/
theorem freeze_ok {c : Cfg} (ok : Ok T.gl c) {own : Nat → Prop} (ho : ∀ g, own g → c.own g ∧ ¬ img c.ρ c.H g) : ∀ n : Nat,
    (∀ (a r : A) (y : Value), freeze c.H n a = some r → R c.ρ c.own c.w a y → R [] own c.w r y) ∧
    (∀ (cs rs : List A) (ys : List Value), mapO (freeze c.H n) cs = some rs → RL c.ρ c.own c.w cs ys → RL [] own c.w rs ys) := by
  intro n
  have keep : ∀ {z : A} {y : Value}, R [] c.own c.w z y → R [] own c.w z y := fun h => R.keep ⟨List.prefix_rfl, Nat.le_refl _, fun g _ hn => ⟨fun h => hn (ho g h).1, rfl⟩, fun _ cur _ fz h => ⟨cur, fz, h, rfl⟩, fun _ es n h => ⟨es, n, h⟩, fun _ o h _ => ⟨o, h, rfl⟩⟩ _ _ h
  have keepL : ∀ {z : List A} {y : List Value}, RL [] c.own c.w z y → RL [] own c.w z y := fun h => RL.keep ⟨List.prefix_rfl, Nat.le_refl _, fun g _ hn => ⟨fun h => hn (ho g h).1, rfl⟩, fun _ cur _ fz h => ⟨cur, fz, h, rfl⟩, fun _ es n h => ⟨es, n, h⟩, fun _ o h _ => ⟨o, h, rfl⟩⟩ _ _ h
  induction n with
  | zero =>
    refine ⟨fun a r y h => by simp [freeze] at h, fun cs => ?_⟩
    induction cs with
    | nil =>
      intro rs ys h hr
      simp [mapO] at h
      subst h
      rw [RL] at hr ⊢
      exact hr
    | cons c0 cs ih =>
      intro rs ys h hr
      unfold mapO at h
      simp [freeze] at h
  | succ n ih =>
    have hA : ∀ (a r : A) (y : Value), freeze c.H (n + 1) a = some r → R c.ρ c.own c.w a y → R [] own c.w r y := by
      intro a r y h hr
      cases a with
      | v x =>
        simp only [freeze, Option.some.injEq] at h
        subst h
        rw [R] at hr ⊢
        exact hr
      | agg cs =>
        simp only [freeze] at h
        cases hf : mapO (freeze c.H n) cs with
        | none => simp [hf] at h
        | some rs =>
          simp only [hf, Option.map_some, Option.some.injEq] at h
          subst h
          rw [R] at hr ⊢
          obtain ⟨xs, h1, h2⟩ := hr
          exact ⟨xs, h1, ih.2 cs rs xs hf h2⟩
      | tup cs =>
        simp only [freeze] at h
        cases hf : mapO (freeze c.H n) cs with
        | none => simp [hf] at h
        | some rs =>
          simp only [hf, Option.map_some, Option.some.injEq] at h
          subst h
          rw [R] at hr ⊢
          obtain ⟨xs, h1, h2⟩ := hr
          exact ⟨xs, h1, ih.2 cs rs xs hf h2⟩
      | clo f fs caps =>
        simp only [freeze] at h
        cases hf : mapO (freeze c.H n) fs with
        | none => simp [hf] at h
        | some rs =>
          cases hf' : mapO (freeze c.H n) caps with
          | none => simp [hf, hf'] at h
          | some rs' =>
            simp only [hf, hf', Option.some.injEq] at h
            subst h
            rw [R] at hr ⊢
            obtain ⟨xs, ys, h1, h2, h3⟩ := hr
            exact ⟨xs, ys, h1, ih.2 fs rs xs hf h2, ih.2 caps rs' ys hf' h3⟩
      | sl len cs =>
        simp only [freeze, Option.some.injEq] at h
        subst h
        rw [R] at hr ⊢
        rcases hr with h | ⟨g, off, cap, xs, h1, h0, h2, h3, h4, h5⟩
        · exact .inl h
        · exact .inr ⟨g, off, cap, xs, h1, h0, h2, fun h => h3 (ho g h).1, keepL h4, h5⟩
      | fp cs =>
        simp only [freeze, Option.some.injEq] at h
        subst h
        rw [R] at hr ⊢
        obtain ⟨g, off, xs, h1, h2, h3, h4, h5⟩ := hr
        exact ⟨g, off, xs, h1, h2, fun h => h3 (ho g h).1, keepL h4, h5⟩
      | mf cs =>
        simp only [freeze, Option.some.injEq] at h
        subst h
        rw [R] at hr ⊢
        rcases hr with hr | ⟨g, es, m, h1, h2, h3, h4, h5⟩
        · exact .inl hr
        · exact .inr ⟨g, es, m, h1, h2, fun h => h3 (ho g h).1, h4, keepL h5⟩
      | mp b =>
        simp only [freeze] at h
        split at h
        · rename_i k hb
          cases hf : mapO (freeze c.H n) k.cs with
          | none => simp [hf] at h
          | some rs =>
            simp only [hf, Option.map_some, Option.some.injEq] at h
            subst h
            rw [R] at hr
            rw [R]
            obtain ⟨g, hg, rfl, es, m, hmap⟩ := hr
            rcases ok.blk b k.e k.cs k.whole g hb hg with ⟨cur, xs, h1, -⟩ | ⟨es', m', h1, h2⟩ | ⟨r', nt', ps', sl', a', b', rest', h1, -⟩ | ⟨s', p', h1, -⟩
            · rw [hmap] at h1
              cases h1
            rotate_left
            · rw [hmap] at h1
              cases h1
            · rw [hmap] at h1
              cases h1
            · exact .inr ⟨g, es', m', rfl, ok.lt g (ok.img g ⟨b, k, hb, hg⟩), fun h => (ho g h).2 ⟨b, k, hb, hg⟩, h1, ih.2 _ rs _ hf h2.1⟩
        · cases h
      | yl b => simp [freeze] at h
      | lrec nt ps sl a b => simp [freeze] at h
      | it b => simp [freeze] at h
      | its s p => simp [freeze] at h
      | ptr b off =>
        simp only [freeze] at h
        split at h
        · rename_i k hb
          cases hf : mapO (freeze c.H n) (k.cs.drop off) with
          | none => simp [hf] at h
          | some rs =>
            simp only [hf, Option.map_some, Option.some.injEq] at h
            subst h
            rw [R] at hr
            rw [R]
            obtain ⟨g, hg, rfl, hsh⟩ := hr
            obtain ⟨cur, xs, hcur, hxs, hlie, -⟩ := ok.lies hb hg hsh
            exact ⟨g, off, xs.drop off, rfl, ok.lt g (ok.img g ⟨b, k, hb, hg⟩), fun h => (ho g h).2 ⟨b, k, hb, hg⟩, ih.2 _ rs _ hf (hxs.drop off), by simpa using hlie.drop off⟩
        · cases h
      | ref b off len sz =>
        simp only [freeze] at h
        split at h
        · rename_i k hb
          split at h
          · cases hf : mapO (freeze c.H n) ((k.cs.drop off).take (len * sz)) with
            | none => simp [hf] at h
            | some rs =>
              simp only [hf, Option.map_some, Option.some.injEq] at h
              subst h
              rw [R] at hr
              rw [R]
              obtain ⟨g, cap, cur0, e0, fz0, hg, rfl, hn, -, hcl, -⟩ := hr
              obtain ⟨cur, xs, hcur, hxs, hlie, -⟩ := ok.lies hb hg ⟨cur0, e0, fz0, hcl⟩
              refine .inr ⟨g, off, cap, (xs.drop off).take (len * sz), rfl, hn, ok.lt g (ok.img g ⟨b, k, hb, hg⟩), fun h => (ho g h).2 ⟨b, k, hb, hg⟩, ih.2 _ rs _ hf ((hxs.drop off).take _), ?_⟩
              have := (hlie.drop off).take (len * sz)
              simpa using this
          · cases h
        · cases h
    refine ⟨hA, fun cs => ?_⟩
    induction cs with
    | nil =>
      intro rs ys h hr
      simp [mapO] at h
      subst h
      rw [RL] at hr ⊢
      exact hr
    | cons c0 cs ihc =>
      intro rs ys h hr
      unfold mapO at h
      cases h1 : freeze c.H (n + 1) c0 with
      | none => simp [h1] at h
      | some r1 =>
        cases h2 : mapO (freeze c.H (n + 1)) cs with
        | none => simp [h1, h2] at h
        | some r2 =>
          simp only [h1, h2, Option.some.injEq] at h
          subst h
          rw [RL] at hr
          obtain ⟨x, xs, rfl, h3, h4⟩ := hr
          exact RL.cons (hA c0 r1 x h1 h3) (ihc r2 xs h2 h4)
mutual
theorem nrm_ok {ρ : List Nat} {own : Nat → Prop} {w : World} : ∀ (a : A) (y : Value), R ρ own w a y → R ρ own w (nrm a) y
  | .v x, y, h => by
    unfold nrm
    split
    · rw [R] at h
      subst h
      rw [R]
      exact .inl ⟨rfl, rfl, _, _, rfl⟩
    · exact h
  | .agg l, y, h => by
    rw [nrm, R]
    rw [R] at h
    obtain ⟨xs, h1, h2⟩ := h
    exact ⟨xs, h1, nrmL_ok l xs h2⟩
  | .tup l, y, h => by
    rw [nrm, R]
    rw [R] at h
    obtain ⟨xs, h1, h2⟩ := h
    exact ⟨xs, h1, nrmL_ok l xs h2⟩
  | .sl n l, y, h => by
    rw [nrm, R]
    rw [R] at h
    rcases h with ⟨h1, h2, h3⟩ | ⟨g, off, cap, xs, h1, h0, h2, h3, h4, h5⟩
    · exact .inl ⟨h1, by rw [h2]; rfl, h3⟩
    · exact .inr ⟨g, off, cap, xs, h1, h0, h2, h3, nrmL_ok l xs h4, h5⟩
  | .fp l, y, h => by
    rw [nrm, R]
    rw [R] at h
    obtain ⟨g, off, xs, h1, h2, h3, h4, h5⟩ := h
    exact ⟨g, off, xs, h1, h2, h3, nrmL_ok l xs h4, h5⟩
  | .mf l, y, h => by
    rw [nrm, R]
    rw [R] at h
    rcases h with ⟨h1, h2⟩ | ⟨g, es, n, h1, h2, h3, h4, h5⟩
    · exact .inl ⟨by rw [h1]; rfl, h2⟩
    · exact .inr ⟨g, es, n, h1, h2, h3, h4, nrmL_ok l _ h5⟩
  | .clo f l r, y, h => by
    rw [nrm, R]
    rw [R] at h
    obtain ⟨xs, ys, h1, h2, h3⟩ := h
    exact ⟨xs, ys, h1, nrmL_ok l xs h2, nrmL_ok r ys h3⟩
  | .ptr b o, y, h => by rwa [nrm]
  | .ref b o n z, y, h => by rwa [nrm]
  | .mp b, y, h => by rwa [nrm]
  | .yl b, y, h => by rwa [nrm]
  | .lrec nt ps sl a b, y, h => by rwa [nrm]
  | .it b, y, h => by rwa [nrm]
  | .its s p, y, h => by rwa [nrm]
theorem nrmL_ok {ρ : List Nat} {own : Nat → Prop} {w : World} : ∀ (l : List A) (ys : List Value), RL ρ own w l ys → RL ρ own w (nrmL l) ys
  | [], ys, h => by rwa [nrmL]
  | a :: l, ys, h => by
    rw [nrmL]
    rw [RL] at h
    obtain ⟨x, xs, rfl, h1, h2⟩ := h
    exact RL.cons (nrm_ok a x h1) (nrmL_ok l xs h2)
end
theorem holdR_ok {c : Cfg} (ok : Ok T.gl c) {own : Nat → Prop} (ho : ∀ g, own g → c.own g ∧ ¬ img c.ρ c.H g) {md : Mode} {a r : A} {y : Value} (h : holdR md c.H a = some r) (hr : R c.ρ c.own c.w a y) : R [] own c.w r y := by
  have key : ∀ r, freeze c.H 20 a = some r → R [] own c.w r y := fun r h => (freeze_ok ok ho 20).1 a r y h hr
  cases md with
  | shut => exact key r h
  | pass => exact key r h
  | trim => exact key r h
  | norm =>
    simp only [holdR] at h
    obtain ⟨r0, h1, rfl⟩ := Option.map_eq_some_iff.1 h
    exact nrm_ok r0 y (key r0 h1)
end Go.Proofs.YtijpomemobgddaaGreatDoor.Ev
