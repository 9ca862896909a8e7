/- The evaluator's quiet operations are the model's: places, parts, literals, slices, lengths. -/
import Derived.Test.YtkpolehpdgnliaaE7
set_option linter.unusedSimpArgs false
set_option linter.unusedVariables false
namespace Go.Proofs.Ytkpolehpdgnliaa.Ev
open Go Go.RowKit
variable {P : Program} {T : Tb}

theorem kOf_struct {d : TypeDesc} {fs : List (TypeId × Nat × Bool)} (h : kOf d = .struct fs) : ∃ fds : Array Field, d = .struct fds ∧ fds.toList.map (fun f => (f.type, f.offset, f.name != "_")) = fs := by
  cases d with
  | struct fds => simp only [kOf, K.struct.injEq] at h; exact ⟨fds, rfl, h⟩
  | _ => simp [kOf] at h
theorem kOf_slice {d : TypeDesc} {e : TypeId} (h : kOf d = .slice e) : d = .slice e := by
  cases d <;> simp [kOf] at h
  rw [h]
theorem kOf_array {d : TypeDesc} {n : Nat} {e : TypeId} (h : kOf d = .array n e) : d = .array n e := by
  cases d <;> simp [kOf] at h
  rw [h.1, h.2]
theorem kOf_str {d : TypeDesc} (h : kOf d = .str) : d = .string := by
  cases d <;> simp [kOf] at h
  rfl

section
variable {c : Cfg} {e : Env} {a : Act} {o : Oper} {x : A}

theorem field_of {fds : Array Field} {fs : List (TypeId × Nat × Bool)} (hf : fds.toList.map (fun f => (f.type, f.offset, f.name != "_")) = fs) {i : Nat} {t : TypeId} {off : Nat} {b : Bool} (h : fs[i]? = some (t, off, b)) :
    ∃ f, fds[i]? = some f ∧ f.type = t ∧ f.offset = off := by
  subst hf
  rw [List.getElem?_map] at h
  cases hh : fds.toList[i]? with
  | none => simp [hh] at h
  | some f =>
    simp only [hh, Option.map_some, Option.some.injEq, Prod.mk.injEq] at h
    exact ⟨f, by simpa using hh, h.1, h.2.1⟩

theorem fieldAddr_ok (hT : TOk P T) (he : EnvR c e a) {t : TypeId} {p : Operand} {i : Nat} (ho : o.op = .fieldAddr t p i) (h : quietOp T e c.H (.fieldAddr t p i) = some x) : Gives P c a o x := by
  simp only [quietOp] at h
  have hx : execOp a.eval o = (do pure (.value (← Instr.fieldAt t (a.eval p) i)) : Sem Next) := by simp only [execOp, ho]
  split at h
  · rename_i ty u hty hp
    split at h
    · rename_i fs hk
      split at h
      · rename_i ft off b hf
        split at h
        · rename_i fty hft
          split at h
          · rename_i hsz
            obtain ⟨d, hd, hkd⟩ := (hT.facts hty).desc
            rw [hk] at hkd
            obtain ⟨fds, rfl, hfs⟩ := kOf_struct hkd
            obtain ⟨f, hf1, hf2, hf3⟩ := field_of hfs hf
            have hs := (hT.facts hft).run_sizeOf c.w
            rw [← hf2] at hs
            have hn : ¬ fty.size = 0 := by omega
            have hu := he.opnd hp
            split at h
            · rename_i b0 o0
              obtain rfl := Option.some.inj h
              simp only [R] at hu
              obtain ⟨g, hg, hu, hsh⟩ := hu
              refine Gives.mk hx (y := .pointer (some ⟨g, o0 + off, none⟩)) ?_ (by rw [R]; exact ⟨g, hg, rfl, hsh⟩)
              rw [hu]
              simp [Instr.fieldAt, run_underlying hd, hf1, Instr.sureAddr, fieldPlace, hs, hn, hf3, Addr.add_lit]
            · rename_i cs
              obtain rfl := Option.some.inj h
              simp only [R] at hu
              obtain ⟨g, o1, xs, hu, h2, h3, h4, h5⟩ := hu
              refine Gives.mk hx (y := .pointer (some ⟨g, o1 + off, none⟩)) ?_ (by rw [R]; exact ⟨g, o1 + off, xs.drop off, rfl, h2, h3, h4.drop _, h5.drop _⟩)
              rw [hu]
              simp [Instr.fieldAt, run_underlying hd, hf1, Instr.sureAddr, fieldPlace, hs, hn, hf3, Addr.add_lit]
            · cases h
          · cases h
        · cases h
      · cases h
    · cases h
  · cases h

theorem field_ok (hT : TOk P T) (he : EnvR c e a) {t : TypeId} {p : Operand} {i : Nat} (ho : o.op = .field t p i) (h : quietOp T e c.H (.field t p i) = some x) : Gives P c a o x := by
  simp only [quietOp] at h
  have hx : execOp a.eval o = (do pure (.value (← Instr.field t (a.eval p) i)) : Sem Next) := by simp only [execOp, ho]
  split at h
  · rename_i ty cs hty hp
    split at h
    · rename_i fs hk
      split at h
      · rename_i ft off b hf
        split at h
        · rename_i fty hft
          obtain ⟨d, hd, hkd⟩ := (hT.facts hty).desc
          rw [hk] at hkd
          obtain ⟨fds, rfl, hfs⟩ := kOf_struct hkd
          obtain ⟨f, hf1, hf2, hf3⟩ := field_of hfs hf
          have hu := he.opnd hp
          simp only [R] at hu
          obtain ⟨xs, hu, h2⟩ := hu
          obtain ⟨y, h3, h4⟩ := run_part (hT.facts hft) h h2
          refine Gives.mk hx (y := y) ?_ h4
          rw [hu]
          simp [Instr.field, run_underlying hd, hf1, asAgg, hf2, hf3, h3]
        · cases h
      · cases h
    · cases h
  · cases h

theorem index_ok (hT : TOk P T) (he : EnvR c e a) {t : TypeId} {p q : Operand} (ho : o.op = .index t p q) (h : quietOp T e c.H (.index t p q) = some x) : Gives P c a o x := by
  simp only [quietOp] at h
  have hx : execOp a.eval o = (do pure (.value (← Instr.index t (a.eval p) (a.eval q))) : Sem Next) := by simp only [execOp, ho]
  split at h
  · rename_i ty u k n hty hp hq
    obtain ⟨d, hd, hkd⟩ := (hT.facts hty).desc
    have hu := he.opnd hp
    have hv := he.opnd hq
    simp only [R] at hv
    split at h
    · rename_i len el hk
      rw [hk] at hkd
      obtain rfl := kOf_array hkd
      split at h
      · rename_i te cs hte
        split at h
        · rename_i hb
          simp only [R] at hu
          obtain ⟨xs, hu, h2⟩ := hu
          obtain ⟨y, h3, h4⟩ := run_part (hT.facts hte) h h2
          refine Gives.mk hx (y := y) ?_ h4
          rw [hu, hv]
          simp [Instr.index, asIntOf, run_underlying hd, hb, (hT.facts hte).run_sizeOf, h3]
        · cases h
      · cases h
    · rename_i hk
      rw [hk] at hkd
      obtain rfl := kOf_str hkd
      split at h
      · rename_i s
        split at h
        · rename_i hb
          simp only [R] at hu
          cases hs : s[n.toNat]? with
          | none => simp [hs] at h
          | some b =>
            simp only [hs, Option.map_some, Option.some.injEq] at h
            subst h
            refine Gives.mk hx (y := .int .u8 b.toNat) ?_ (by rw [R])
            rw [hu, hv]
            simp [Instr.index, asIntOf, run_underlying hd, hb, hs]
        · cases h
      · cases h
    · cases h
  · cases h

theorem indexAddr_ok (hT : TOk P T) (he : EnvR c e a) {t : TypeId} {p q : Operand} (ho : o.op = .indexAddr t p q) (h : quietOp T e c.H (.indexAddr t p q) = some x) : Gives P c a o x := by
  simp only [quietOp] at h
  have hx : execOp a.eval o = (do pure (.value (← Instr.indexAt t (a.eval p) (a.eval q))) : Sem Next) := by simp only [execOp, ho]
  split at h
  · rename_i ty u k n hty hp hq
    obtain ⟨d, hd, hkd⟩ := (hT.facts hty).desc
    have hu := he.opnd hp
    have hv := he.opnd hq
    simp only [R] at hv
    split at h
    · rename_i el hk
      rw [hk] at hkd
      obtain rfl := kOf_slice hkd
      split at h
      · rename_i te hte
        have hs := (hT.facts hte).run_sizeOf c.w
        split at h
        · rename_i b off len sz
          split at h
          · rename_i hb
            obtain rfl := Option.some.inj h
            simp only [R] at hu
            obtain ⟨g, cap, cur, e', hg, hu, -, -, hcl, -⟩ := hu
            have hsh : ∃ cur e, c.w.heap[g]? = some (.cells cur e (0, 0)) := ⟨cur, e', hcl⟩
            refine Gives.mk hx (y := .pointer (some ⟨g, off + n.toNat * te.size, none⟩)) ?_ (by rw [R]; exact ⟨g, hg, rfl, hsh⟩)
            rw [hu, hv]
            simp [Instr.indexAt, asIntOf, run_underlying hd, hb.1, hb.2.1, hs, Addr.add_lit]
          · cases h
        · rename_i len cs
          split at h
          · rename_i hb
            obtain rfl := Option.some.inj h
            simp only [R] at hu
            rcases hu with ⟨hu, -⟩ | ⟨g, off, cap, xs, hu, -, h2, h3, h4, h5⟩
            · omega
            · refine Gives.mk hx (y := .pointer (some ⟨g, off + n.toNat * te.size, none⟩)) ?_ (by rw [R]; exact ⟨g, _, xs.drop (n.toNat * te.size), rfl, h2, h3, h4.drop _, h5.drop _⟩)
              rw [hu, hv]
              simp [Instr.indexAt, asIntOf, run_underlying hd, hb.1, hb.2, hs, Addr.add_lit]
          · cases h
        · cases h
      · cases h
    · rename_i len el hk
      rw [hk] at hkd
      obtain rfl := kOf_array hkd
      split at h
      · rename_i te hte
        have hs := (hT.facts hte).run_sizeOf c.w
        split at h
        · rename_i hb
          split at h
          · rename_i b off
            obtain rfl := Option.some.inj h
            simp only [R] at hu
            obtain ⟨g, hg, hu, hsh⟩ := hu
            refine Gives.mk hx (y := .pointer (some ⟨g, off + n.toNat * te.size, none⟩)) ?_ (by rw [R]; exact ⟨g, hg, rfl, hsh⟩)
            rw [hu, hv]
            simp [Instr.indexAt, asIntOf, run_underlying hd, Instr.sureAddr, hb.1, hb.2, hs, Addr.add_lit]
          · rename_i g off
            obtain rfl := Option.some.inj h
            simp only [R] at hu
            refine Gives.mk hx (y := .pointer (some ⟨g, off + n.toNat * te.size, none⟩)) ?_ (by rw [R])
            rw [hu, hv]
            simp [Instr.indexAt, asIntOf, run_underlying hd, Instr.sureAddr, hb.1, hb.2, hs, Addr.add_lit]
          · rename_i cs
            obtain rfl := Option.some.inj h
            simp only [R] at hu
            obtain ⟨g, o1, xs, hu, h2, h3, h4, h5⟩ := hu
            refine Gives.mk hx (y := .pointer (some ⟨g, o1 + n.toNat * te.size, none⟩)) ?_ (by rw [R]; exact ⟨g, _, xs.drop (n.toNat * te.size), rfl, h2, h3, h4.drop _, h5.drop _⟩)
            rw [hu, hv]
            simp [Instr.indexAt, asIntOf, run_underlying hd, Instr.sureAddr, hb.1, hb.2, hs, Addr.add_lit]
          · cases h
        · cases h
      · cases h
    · cases h
  · cases h
end
end Go.Proofs.Ytkpolehpdgnliaa.Ev
