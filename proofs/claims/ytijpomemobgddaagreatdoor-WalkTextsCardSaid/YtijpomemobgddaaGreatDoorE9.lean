/- The evaluator's quiet operations are the model's: slices of strings, slices and arrays; literals of structs and arrays; lengths. -/
import Derived.Test.YtijpomemobgddaaGreatDoorE7
import Derived.Laws.Tables
import Derived.Laws.Slices
set_option linter.unusedSimpArgs false
set_option linter.unusedVariables false
namespace Go.Proofs.YtijpomemobgddaaGreatDoor.Ev
open Go Go.RowKit
variable {P : Program} {T : Tb}

section
variable {c : Cfg} {e : Env} {a : Act} {o : Oper} {x : A}

theorem opndO_ok (he : EnvR c e a) {p : Option Operand} {u : Option A} (h : opndO e p = some u) : (u = none ∧ p.map a.eval = none) ∨ ∃ z y, u = some z ∧ p.map a.eval = some y ∧ R c.ρ c.own c.w z y := by
  cases p with
  | none => left; simp [opndO] at h; exact ⟨h.symm, rfl⟩
  | some p =>
    right
    unfold opndO at h
    cases hp : opnd e p with
    | none => simp [hp] at h
    | some z =>
      simp only [hp, Option.map_some, Option.some.injEq] at h
      exact ⟨z, a.eval p, h.symm, rfl, he.opnd hp⟩

theorem run_bnd (he : EnvR c e a) {p : Option Operand} {u : Option A} (h : opndO e p = some u) {n d i : Nat} (hb : bnd n u d = some i) (hd : d ≤ n) (code : BoundsCode) (N : Nat) (hN : n ≤ N) :
    i ≤ n ∧ (match p.map a.eval with | some v => Instr.sliceBound v N code | none => pure d : Sem Nat).run P c.w = .ok i c.w := by
  rcases opndO_ok he h with ⟨rfl, h2⟩ | ⟨z, y, rfl, h2, hr⟩
  · simp [bnd] at hb
    subst hb
    rw [h2]
    exact ⟨hd, rfl⟩
  · unfold bnd at hb
    split at hb
    · simp_all
    · rename_i k j hz
      obtain rfl := Option.some.inj hz
      split at hb
      · rename_i hj
        obtain rfl := Option.some.inj hb
        simp only [R] at hr
        subst hr
        rw [h2]
        exact ⟨by omega, run_sliceBound c.w k j N code hj.1 (by omega)⟩
      · cases hb
    · cases hb
theorem bnds_parts {n i j : Nat} {u v : Option A} (h : bnds n u v = some (i, j)) : bnd n v n = some j ∧ bnd j u 0 = some i := by
  unfold bnds at h
  cases h1 : bnd n v n with
  | none => simp [h1] at h
  | some j' =>
    simp only [h1] at h
    cases h2 : bnd j' u 0 with
    | none => simp [h2] at h
    | some i' =>
      simp only [h2, Option.some.injEq, Prod.mk.injEq] at h
      obtain ⟨rfl, rfl⟩ := h
      exact ⟨rfl, h2⟩
theorem run_bounds (he : EnvR c e a) {p q : Option Operand} {u v : Option A} (hp : opndO e p = some u) (hq : opndO e q = some v) {n i j : Nat} (h : bnds n u v = some (i, j)) (s : Bool) (N : Nat) (hN : n ≤ N) :
    i ≤ j ∧ j ≤ n ∧ (Instr.sliceBounds s n N (p.map a.eval) (q.map a.eval) none).run P c.w = .ok (i, j, N) c.w := by
  obtain ⟨h1, h2⟩ := bnds_parts h
  obtain ⟨hj, hr1⟩ := run_bnd (P := P) he hq h1 (Nat.le_refl _) (if s then .sliceAcap else .sliceAlen) N hN
  obtain ⟨hi, hr2⟩ := run_bnd (P := P) he hp h2 (Nat.zero_le _) .sliceB j (Nat.le_refl _)
  refine ⟨hi, hj, ?_⟩
  cases hp' : p.map a.eval <;> cases hq' : q.map a.eval <;> simp only [hp', hq'] at hr1 hr2 <;> simp [Instr.sliceBounds, hr1, hr2] <;> simp_all

theorem slice_ok (hT : TOk P T) (ok : Ok T.gl c) (he : EnvR c e a) {t : TypeId} {p : Operand} {lo hi mx : Option Operand} (ho : o.op = .slice t p lo hi mx) (h : quietOp T e c.H (.slice t p lo hi mx) = some x) : Gives P c a o x := by
  simp only [quietOp] at h
  have hx : execOp a.eval o = (do pure (.value (← Instr.sliceAt t (a.eval p) (lo.map a.eval) (hi.map a.eval) (mx.map a.eval))) : Sem Next) := by simp only [execOp, ho]
  split at h
  · rename_i ty u l hh hty hp hlo hhi
    obtain ⟨d, hd, hkd⟩ := (hT.facts hty).desc
    have hu := he.opnd hp
    split at h
    · rename_i hk
      rw [hk] at hkd
      obtain rfl := kOf_str hkd
      split at h
      · rename_i s
        split at h
        · rename_i i j hb
          obtain rfl := Option.some.inj h
          simp only [R] at hu
          obtain ⟨h1, h2, h3⟩ := run_bounds (P := P) he hlo hhi hb false s.size (Nat.le_refl _)
          refine Gives.mk hx (y := .string (s.extract i j)) ?_ (by rw [R])
          rw [hu]
          simp [Instr.sliceAt, Instr.slice, run_underlying hd, h3]
        · cases h
      · cases h
    · rename_i el hk
      rw [hk] at hkd
      obtain rfl := kOf_slice hkd
      split at h
      · rename_i te hte
        have hs := (hT.facts hte).run_sizeOf c.w
        split at h
        · rename_i b off len sz
          split at h
          · rename_i i j hb
            split at h
            · rename_i hsz
              subst hsz
              simp only [R] at hu
              obtain ⟨g, cap, cur, e', fz, hg, hu, h5, h6, h7, h8⟩ := hu
              obtain ⟨h1, h2, h3⟩ := run_bounds (P := P) he hlo hhi hb true cap h5
              have hrun : (Instr.sliceAt t (a.eval p) (lo.map a.eval) (hi.map a.eval) (Option.map a.eval none)).run P c.w = .ok (.slice (if cap = i then some ⟨g, off, none⟩ else some (Addr.add ⟨g, off, none⟩ (i * te.size))) (j - i) (cap - i)) c.w := by
                rw [hu]
                simp [Instr.sliceAt, Instr.slice, run_underlying hd, h3, hs]
              split at h
              · rename_i hi
                obtain rfl := Option.some.inj h
                refine Gives.mk hx hrun ?_
                rw [if_neg (by omega), Addr.add_lit, R]
                refine ⟨g, cap - i, cur, e', fz, hg, rfl, by omega, by omega, h7, ?_⟩
                rw [Nat.add_assoc, ← Nat.add_mul, Nat.add_sub_cancel' (by omega : i ≤ cap)]
                exact h8
              · rename_i hi
                obtain rfl := Option.some.inj h
                refine Gives.mk hx hrun ?_
                rw [R]
                left
                have : j - i = 0 := by omega
                rw [this]
                exact ⟨rfl, rfl, _, _, rfl⟩
            · cases h
          · cases h
        · rename_i len cs
          split at h
          · rename_i i j hb
            split at h
            · rename_i hcs
              obtain rfl := Option.some.inj h
              simp only [R] at hu
              rcases hu with ⟨h4, h5, ad, cap, hu⟩ | ⟨g, off, cap, xs, hu, hcap, h4, h5, h6, h7⟩
              · subst h4 h5
                obtain ⟨h1, h2, h3⟩ := run_bounds (P := P) he hlo hhi hb true cap (Nat.zero_le _)
                refine Gives.mk hx (y := .slice (if cap = i then ad else ad.map (·.add (i * te.size))) (j - i) (cap - i)) ?_ ?_
                · rw [hu]
                  simp [Instr.sliceAt, Instr.slice, run_underlying hd, h3, hs]
                · rw [R]
                  left
                  have : j - i = 0 := by omega
                  rw [this]
                  exact ⟨rfl, by simp, _, _, rfl⟩
              · · obtain ⟨h1, h2, h3⟩ := run_bounds (P := P) he hlo hhi hb true cap hcap
                  have hrun : (Instr.sliceAt t (a.eval p) (lo.map a.eval) (hi.map a.eval) (Option.map a.eval none)).run P c.w = .ok (.slice (if cap = i then some ⟨g, off, none⟩ else some (Addr.add ⟨g, off, none⟩ (i * te.size))) (j - i) (cap - i)) c.w := by
                    rw [hu]
                    simp [Instr.sliceAt, Instr.slice, run_underlying hd, h3, hs]
                  refine Gives.mk hx hrun ?_
                  rw [R]
                  by_cases hij : j - i = 0
                  · left
                    rw [hij]
                    exact ⟨rfl, by simp, _, _, rfl⟩
                  · right
                    rw [if_neg (by omega), Addr.add_lit]
                    exact ⟨g, off + i * te.size, cap - i, (xs.drop (i * te.size)).take ((j - i) * te.size), rfl, by omega, h4, h5, (h6.drop _).take _, (h7.drop _).take _⟩
            · cases h
          · cases h
        · split at h
          · rename_i ij hb
            obtain rfl := Option.some.inj h
            simp only [R] at hu
            obtain ⟨h1, h2, h3⟩ := run_bounds (P := P) he hlo hhi hb true 0 (Nat.le_refl _)
            refine Gives.mk hx (y := .slice none 0 0) ?_ (by rw [R])
            rw [hu]
            have hj : ij.2 = 0 := by omega
            have hi : ij.1 = 0 := by omega
            simp [Instr.sliceAt, Instr.slice, run_underlying hd, h3, hs, hi, hj]
          · cases h
        · cases h
      · cases h
    · rename_i n el hk
      rw [hk] at hkd
      obtain rfl := kOf_array hkd
      split at h
      · rename_i te i j hte hb
        have hs := (hT.facts hte).run_sizeOf c.w
        obtain ⟨h1, h2, h3⟩ := run_bounds (P := P) he hlo hhi hb false n (Nat.le_refl _)
        split at h
        · rename_i cs
          split at h
          · rename_i hlen
            obtain rfl := Option.some.inj h
            simp only [R] at hu
            obtain ⟨g, off, xs, hu, h4, h5, h6, h7⟩ := hu
            have hrun : (Instr.sliceAt t (a.eval p) (lo.map a.eval) (hi.map a.eval) (Option.map a.eval none)).run P c.w = .ok (.slice (some (if n = i then ⟨g, off, none⟩ else Addr.add ⟨g, off, none⟩ (i * te.size))) (j - i) (n - i)) c.w := by
              rw [hu]
              simp [Instr.sliceAt, Instr.sureAddr, run_underlying hd, h3, hs]
            refine Gives.mk hx hrun ?_
            rw [R]
            by_cases hij : j - i = 0
            · left
              rw [hij]
              exact ⟨rfl, by simp, _, _, rfl⟩
            · right
              rw [if_neg (by omega), Addr.add_lit]
              exact ⟨g, off + i * te.size, n - i, (xs.drop (i * te.size)).take ((j - i) * te.size), rfl, by omega, h4, h5, (h6.drop _).take _, (h7.drop _).take _⟩
          · cases h
        · rename_i b off
          split at h
          · rename_i k hbk
            split at h
            · rename_i hc
              simp only [Bool.and_eq_true, Nat.beq_eq, Nat.ble_eq] at hc
              obtain ⟨⟨hw, hsum⟩, hmax⟩ := hc
              simp only [R] at hu
              obtain ⟨g, hg, hu, hsh⟩ := hu
              obtain ⟨cur, xs, hcur, -, -, -, hwh⟩ := ok.lies hbk hg hsh
              have hrun : (Instr.sliceAt t (a.eval p) (lo.map a.eval) (hi.map a.eval) (Option.map a.eval none)).run P c.w = .ok (.slice (some (if n = i then ⟨g, off, none⟩ else Addr.add ⟨g, off, none⟩ (i * te.size))) (j - i) (n - i)) c.w := by
                rw [hu]
                simp [Instr.sliceAt, Instr.sureAddr, run_underlying hd, h3, hs]
              split at h
              · rename_i hi
                obtain rfl := Option.some.inj h
                refine Gives.mk hx hrun ?_
                rw [if_neg (by omega), Addr.add_lit, R]
                refine ⟨g, n - i, cur, k.e, (0, 0), hg, rfl, by omega, by omega, hcur, ?_⟩
                rw [Nat.add_assoc, ← Nat.add_mul, Nat.add_sub_cancel' (by omega : i ≤ n), hwh hw]
                exact hsum
              · rename_i hi
                obtain rfl := Option.some.inj h
                refine Gives.mk hx hrun ?_
                rw [R]
                left
                have : j - i = 0 := by omega
                rw [this]
                exact ⟨rfl, rfl, _, _, rfl⟩
            · cases h
          · cases h
        · cases h
      · cases h
    · cases h
  · cases h
end
end Go.Proofs.YtijpomemobgddaaGreatDoor.Ev
