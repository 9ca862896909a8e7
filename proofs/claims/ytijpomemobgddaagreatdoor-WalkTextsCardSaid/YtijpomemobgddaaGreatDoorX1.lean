/- A function that calls another one under a deferred recover; strings.Builder's copyCheck: what they do to live blocks. -/
import Derived.Test.YtijpomemobgddaaGreatDoorX0
import Derived.WalkKit
import Derived.RecoverIn
import Derived.Lib.Builder
set_option linter.unusedSimpArgs false
set_option linter.unusedVariables false
namespace Go.Proofs.YtijpomemobgddaaGreatDoor.Ev
open Go Go.RowKit
section
variable {P : Program} {C : Ctx}

/-- Marks, and one deferred call that turns nothing. -/
theorem leaves_wrap {T : Tb} (hT : TOk P T) {c0 : Cfg} {st : St} {a : Act} {fn : Func} {x : A} {fc : FuncId} {cap args : Array Value}
    (hinv : ∀ w, (invoke (.fn (.func fc) cap) args).run P w = .ok (.enter fc (args ++ cap)) w)
    (idle : ∀ w, CallsDIn (Wd none) 0 P fc (args ++ cap) .returning w fun e u' w' => e = .returned (.tuple #[]) ∧ u' = .returning ∧ w' = w) {ds' : List Deferred} : ∀ {ds : List Deferred} {c : Cfg}, To c0 c → result T st fn.results.toList = some x → MarksOk c0 c (ds ++ ds') → Ok T.gl c → c.H = st.H → EnvR c st.env a →
    LeavesInM (Wd none) 0 P fn a.tmps (Back T c0 x st.H) (ds ++ { target := .fn (.func fc) cap, args := args } :: ds') .returning c.w := by
  intro ds
  induction ds with
  | nil =>
    intro c ht hres hmk ok hH he
    refine ⟨by simp, .inr ⟨by simp [Wd.depth], .func fc, cap, fc, args ++ cap, rfl, hinv _, fun g hg => Wd.fn _ g, ?_⟩⟩
    refine (idle c.w).mono ?_
    rintro e u' w' ⟨rfl, rfl, rfl⟩
    exact leaves_ok hT ht hres hmk ok hH he
  | cons d ds ih =>
    intro c ht hres hmk ok hH he
    obtain ⟨Ds, hnd, hDs, hD⟩ := hmk
    cases Ds with
    | nil => simp at hDs
    | cons D Ds =>
      simp only [List.cons_append, List.map_cons, List.cons.injEq] at hDs
      obtain ⟨rfl, hDs⟩ := hDs
      obtain ⟨hn1, hn2⟩ := List.nodup_cons.1 hnd
      have hm := hD D (.head _)
      obtain ⟨k1, k2, k3, k4⟩ := shutMark ok ht hm
      refine ⟨by simp, .inl ⟨D, c.w.putObj D (.deferred none), rfl, run_takeDeferred hm.lies, ?_⟩⟩
      exact ih (c := ⟨c.ρ, c.own, c.H, c.w.putObj D (.deferred none)⟩) k3 hres ⟨Ds, hn2, hDs, fun D' hD' => k4 D' (by rintro rfl; exact hn1 hD') (hD D' (.tail _ hD'))⟩ k2 hH (fun t z hz => R.keep k1 _ _ (he t z hz))
end

/-! holds -/
theorem idle56 (p : Addr) (w : World) : CallsDIn (Wd none) 0 Tryz.prog 56 #[.pointer (some p)] .returning w fun e u' w' => e = .returned (.tuple #[]) ∧ u' = .returning ∧ w' = w := by
  refine callsDIn_of_wpSIn Tryz.func56 rfl (Wd.fn _ _) fun c₀ cs hu => ?_
  apply wpSIn_seq
  apply wpSIn_region
  have hnil : ∀ w : World, (binOp BinOp.neq 20 .nilIface .nilIface).run Tryz.prog w = .ok (.bool false) w := fun _ => by kernel_rfl
  simp [wpOpsSIn, go_sem, recoverD, hu, Tryz.ntmps56, Exit.thenS, hnil]
  refine wpSIn_cond (t := false) (by simp [Act.eval, Array.replicate]) ?_
  simp only [Bool.false_eq_true, if_false]
  refine wpSIn_of_wpIn rfl (wpIn_skip ?_)
  cases c₀
  simp_all [bodyPostS, results, Tryz.results56, Exit.thenS]
def all9 : List Nat := [0, 1, 2, 3, 4, 5, 6, 7, 8]
def m29a : M := .reg all9 [⟨some 3, .box 72 (.tmp 1), none⟩, ⟨some 4, .alloc 4, none⟩] 0
def m29b : M := .reg all9 [⟨some 6, .move (.tmp 0), none⟩, ⟨some 7, .load 72 (.tmp 3), none⟩, ⟨some 8, .call ⟨.value (.tmp 6), #[.tmp 7], #[72]⟩, none⟩, ⟨none, .store 4 (.tmp 4) (.tmp 8), none⟩] 0
def seqL : Code → Code
  | .seq a _ => a
  | c => c
def seqR : Code → Code
  | .seq _ b => b
  | c => c
noncomputable def c29 : Code := Tryz.f29.body.getD .skip
noncomputable def o29 : Array Oper := match seqL (seqR c29) with
  | .region _ ops _ => ops
  | _ => #[]
theorem body29 : Tryz.f29.body = some c29 := rfl
theorem enters29 : Enters Tryz.prog 29 := by
  intro args w
  have h5 : ¬ Tryz.f29.name = "runtime.NumGoroutine" := by decide
  simp [callFunc, Tryz.func29, h5, body29]
theorem c29_eq : c29 = .seq (seqL c29) (.seq (.region 1 o29 false) (.seq (seqL (seqR (seqR c29))) .ret)) := by kernel_rfl
theorem c29_a : cmp 9 (fun _ => all9) (seqL c29) = m29a := by kernel_rfl
theorem c29_b : cmp 9 (fun _ => all9) (seqL (seqR (seqR c29))) = m29b := by kernel_rfl
/-- holds, by what its property gives. -/
def holdsO (C : Ctx) (zs : List A) (H : Heap) : Option (A × Heap) :=
  match runM C.T (callQ C 60) (callQ.callO C 60) 60 m29a ⟨argE 0 zs, H⟩ with
  | some (.go, s1) => match look s1.env 4, look s1.env 5 with
    | some (.ptr _ 0), none => match runM C.T (callQ C 60) (callQ.callO C 60) 60 m29b s1 with
      | some (.go, s2) => match result C.T s2 [.cell 4 4] with
        | some x => bif Nat.ble zs.length 9 then some (x, s2.H) else none
        | none => none
      | _ => none
    | _, _ => none
  | _ => none
theorem holds_ok {C : Ctx} (hC : CtxOk Tryz.prog C) {zs : List A} {H H' : Heap} {x : A} (h : holdsO C zs H = some (x, H')) : FnOut C.T Tryz.prog 29 zs H x H' := by
  obtain ⟨hQ, hO⟩ := call_sound hC 60
  refine .inr ⟨enters29, fun c ys hH ok hr => ?_⟩
  unfold holdsO at h
  split at h
  · rename_i s1 h0
    split at h
    · rename_i b hp hn
      split at h
      · rename_i s2 h2
        split at h
        · rename_i x' hres
          cases hlen : Nat.ble zs.length 9 with
          | false => simp [hlen] at h
          | true =>
            simp only [hlen, cond_true, Option.some.injEq, Prod.mk.injEq] at h
            obtain ⟨rfl, rfl⟩ := h
            have hlen := Nat.le_of_ble_eq_true hlen
            have hl := hr.length
            have henv : EnvR c (argE 0 zs) { tmps := ys.toArray ++ Array.replicate (Tryz.f29.ntmps - ys.toArray.size) undef, defers := [] } := by
              intro t z hz
              obtain ⟨-, hz'⟩ := look_argE zs 0 t z hz
              obtain ⟨y, hy, hzr⟩ := hr.get (t - 0) z hz'
              have hy' : (ys.toArray ++ Array.replicate (Tryz.f29.ntmps - ys.toArray.size) undef)[t]? = some y := by
                rw [Array.getElem?_append_left (by simpa using (List.getElem?_eq_some_iff.1 hy).1)]
                simpa using hy
              simp only [Array.getD_eq_getD_getElem?, hy', Option.getD_some]
              exact hzr
            have hsz : (ys.toArray ++ Array.replicate (Tryz.f29.ntmps - ys.toArray.size) undef).size = 9 := by
              rw [Tryz.ntmps29]
              simp
              omega
            refine (callsIn_wide (n := 0)).1 (callsIn_of_wp_marks (fn := Tryz.f29) (c := c29) Tryz.func29 body29 trivial ?_)
            have hwd : Fence.wide = Wd none := rfl
            rw [hwd, c29_eq]
            refine wpIn_seq (code_ok hC.mixed hC.types hC.loops hQ hO 60 _ _ _ _ (by rw [c29_a]; exact h0) c _ _ hH ok henv hsz (fun l hl => by cases hl) ?_)
            intro a1 c1 ds1 k1 k2 k3 k4 k5 k6 k7
            refine wpIn_seq ?_
            obtain ⟨q1, q2, ho, e1, e2, e3, e4, e5, e6⟩ : ∃ q1 q2 : Oper, o29 = #[q1, q2] ∧ q1.op = .makeFunc (.func 56) #[] #[.tmp 4] ∧ q1.dst = some 5 ∧ q1.guard = none ∧ q2.op = .defer { callee := .value (.tmp 5), args := #[], argTypes := #[] } ∧ q2.dst = none ∧ q2.guard = none := ⟨_, _, rfl, rfl, rfl, rfl, rfl, rfl, rfl⟩
            rw [ho]
            refine wpIn_region_list ?_
            have hp4 := k4 4 _ hp
            rw [R] at hp4
            obtain ⟨g, hg, hpv, -⟩ := hp4
            refine wpListIn_plain e3 fun K hK => ?_
            have hr1 : (execOp a1.eval q1).run Tryz.prog c1.w = .ok (.value (.func (.func 56) #[] #[.pointer (some ⟨g, 0, none⟩)])) c1.w := by
              simp only [execOp, e1]
              simp [Instr.makeFunc, Act.eval, hpv]
            have hs1 : q1.semAt (Wd none).round a1.eval = execOp a1.eval q1 := by
              unfold Oper.semAt
              rw [e1]
              rfl
            refine ⟨fun f _ => Wd.fn _ f, ?_⟩
            rw [hs1, hr1]
            show K (a1.put q1.dst _) c1.w
            refine hK _ _ ?_
            refine wpListIn_plain e6 fun K2 hK2 => ?_
            rw [e2]
            have ha5 : (a1.put (some 5) (.func (.func 56) #[] #[.pointer (some ⟨g, 0, none⟩)])).eval (.tmp 5) = .func (.func 56) #[] #[.pointer (some ⟨g, 0, none⟩)] := by
              simp [Act.put, Act.eval, k5]
            have hr2 : (execOp (a1.put (some 5) (.func (.func 56) #[] #[.pointer (some ⟨g, 0, none⟩)])).eval q2).run Tryz.prog c1.w = .ok (.defer { target := .fn (.func 56) #[.pointer (some ⟨g, 0, none⟩)], args := #[] }) c1.w := by
              simp only [execOp, e4, resolve, ha5]
              simp [Deferred.ofValue]
            have hs2 : q2.semAt (Wd none).round (a1.put (some 5) (.func (.func 56) #[] #[.pointer (some ⟨g, 0, none⟩)])).eval = execOp (a1.put (some 5) (.func (.func 56) #[] #[.pointer (some ⟨g, 0, none⟩)])).eval q2 := by
              unfold Oper.semAt
              rw [e4]
              rfl
            refine ⟨fun f _ => Wd.fn _ f, ?_⟩
            rw [hs2, hr2]
            refine hK2 _ _ (wpListIn_nil ?_)
            have k4' : EnvR c1 s1.env (({ a1.put (some 5) (.func (.func 56) #[] #[.pointer (some ⟨g, 0, none⟩)]) with defers := { target := .fn (.func 56) #[.pointer (some ⟨g, 0, none⟩)], args := #[] } :: a1.defers } : Act).put q2.dst undef) := by
              intro t z hz
              have hne : t ≠ 5 := by
                rintro rfl
                rw [hn] at hz
                cases hz
              have := k4 t z hz
              rw [e5]
              simpa [Act.put, Array.getD_eq_getD_getElem?, Array.getElem?_setIfInBounds_ne (Ne.symm hne)] using this
            refine wpIn_seq (code_ok hC.mixed hC.types hC.loops hQ hO 60 _ _ _ _ (by rw [c29_b]; exact h2) c1 _ _ k1 k3 k4' (by rw [e5]; simp [Act.put, k5]) (fun l hl => by cases hl) ?_)
            intro a2 c2 ds2 j1 j2 j3 j4 j5 j6 j7
            refine wpIn_ret ?_
            show LeavesInM (Wd none) 0 Tryz.prog Tryz.f29 a2.tmps _ a2.defers .returning c2.w
            have hd : (({ a1.put (some 5) (.func (.func 56) #[] #[.pointer (some ⟨g, 0, none⟩)]) with defers := { target := .fn (.func 56) #[.pointer (some ⟨g, 0, none⟩)], args := #[] } :: a1.defers } : Act).put q2.dst undef).defers = { target := .fn (.func 56) #[.pointer (some ⟨g, 0, none⟩)], args := #[] } :: ds1 := by
              rw [e5]
              show _ :: a1.defers = _
              rw [k6]
              simp
            have hm12 : MarksOk c c2 (ds2 ++ ds1) := k7.app k2 j2 j7
            have hl := leaves_wrap (P := Tryz.prog) (fn := Tryz.f29) (fc := 56) (cap := #[.pointer (some ⟨g, 0, none⟩)]) (args := #[]) hC.types (fun w => by simp [invoke]) (fun w => by simpa using idle56 ⟨g, 0, none⟩ w) (k2.trans j2) hres hm12 j3 j1 j4
            have j6' : a2.defers = ds2 ++ { target := .fn (.func 56) #[.pointer (some ⟨g, 0, none⟩)], args := #[] } :: ds1 := by rw [j6]; exact congrArg (ds2 ++ ·) hd
            rw [j6']
            exact hl
        · cases h
      · cases h
    · cases h
  · cases h
end Go.Proofs.YtijpomemobgddaaGreatDoor.Ev
