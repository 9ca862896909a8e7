/- The third invariant (the program). -/
import Derived.Test.YtnhknhniemfnjaaGreatDoorN4
import Derived.Test.YtnhknhniemfnjaaGreatDoorN3
set_option linter.unusedSimpArgs false
set_option linter.unusedVariables false
namespace Go.Proofs.YtnhknhniemfnjaaGreatDoor.Ev
open Go Go.RowKit
set_option maxRecDepth 100000
theorem sh_bit : ∀ m : Nat, m < 16 → ∀ i : Nat, i < 4 → (IntKind.u64.wrap ((BitVec.ofInt IntKind.u64.bits (((m : Nat) : Int).fdiv (2 ^ min i IntKind.u64.bits)) &&& BitVec.ofInt IntKind.u64.bits 1).toNat : Int) == 0) = !m.testBit i := by decide +kernel
set_option maxHeartbeats 16000000 in
theorem pnoted_loop {H : Heap} {db bl : Nat} {d : Dr} (dk : d.Ok) {L : Nat → Ln} {n : Nat} (hn : n ≤ 4) (hD : H[db]? = some (some ⟨65, cD d, true⟩)) (hb : H[bl]? = some (some ⟨83, encS L n, false⟩)) {td : Nat} (ht : td < 16) (hbit : ∀ i, i < n → td.testBit i = toldD d n i) {KK : List It} {Q : Ex → St → Prop}
    (hN : allN (pnB d L n) 0 n = false → ∀ G, Ext H G → UnwK Cx .back KK ⟨[(2, bo false)], G⟩ Q)
    (hT : allN (pnB d L n) 0 n = true → ∀ G, Ext H G → UnwK Cx (.out 1) KK ⟨[(57, bo false), (3, .ptr db 0), (5, i64u td), (54, .ref bl 0 n 8), (55, i64 n), (56, i64 n)], G⟩ Q) :
    ∀ (e i : Nat) (G : Heap), i + e = n → allN (pnB d L n) 0 n = allN (pnB d L n) i e → Ext H G → RunK Cx (.code (.loop m68_l0) :: KK) ⟨[(3, .ptr db 0), (5, i64u td), (54, .ref bl 0 n 8), (55, i64 n), (56, i64 i)], G⟩ Q := by
  intro e
  induction e with
  | zero =>
    intro i G hi hq hE
    obtain rfl : i = n := by omega
    rw [runK_loop]
    simp (disch := omega) only [go_sem, Int.lt_irrefl, simprocAttr]
    exact hT hq G hE
  | succ e ih =>
    intro i G hi hq hE
    have hin : i < n := by omega
    have g0 := hE.get hb
    have l0 := ap_low g0
    have g1 := hE.get hD
    have l1 := ap_low g1
    have hlen := encS_len L n
    obtain ⟨tl, hd⟩ := encS_get L hin
    have hcy := cpy_ev (L i)
    have how := own_ev (L i)
    have hoc := fun h => own_cpy (x := L i) h
    obtain ⟨b1, b2⟩ := dk.state
    obtain ⟨b3, b4⟩ := dk.owner
    have eb : pnB d L n i = !(cpyB (L i).state && (decide (d.state = 0) || (decide (d.state = 2) && !decide (d.owner = i) || (ownB (L i).state && !decide (d.owner = i) || !ownB (L i).state && !toldD d n i)))) := rfl
    simp only [allN] at hq
    rw [eb, ← hbit i hin] at hq
    have no := fun h => hN (hq.trans h)
    have ih := fun h T => ih (i + 1) (G ++ T) (by omega) (hq.trans h) (hE.app T)
    have no := fun h T => no h (G ++ T) (hE.app T)
    simp only [Int.natCast_add, Int.natCast_one] at ih
    have htd := sh_bit td ht i (by omega)
    simp (disch := omega) only [go_sem, simprocAttr] at htd
    clear hq eb hN hT
    rw [runK_loop]
    cases vc : cpyB (L i).state <;> rw [vc] at hcy
    · simp (disch := omega) only [go_sem, g0, l0, g1, l1, hd, hin, hlen, htd, simprocAttr, passK_shut CxP96, QK.use hcy, passK_shut CxP97, QK.use how]
      (rw [loop_norm (l := [3, 5, 54, 55, 56]) rfl]; simp (disch := omega) only [go_sem, simprocAttr])
      exact ih (by simp [vc]) _
    by_cases p0 : d.state = 0
    · simp (disch := omega) only [go_sem, g0, l0, g1, l1, hd, hin, hlen, htd, simprocAttr, passK_shut CxP96, QK.use hcy, passK_shut CxP97, QK.use how]
      exact no (by simp [vc, p0]) _
    by_cases p2 : d.owner = i
    case neg =>
      by_cases p1 : d.state = 2
      · simp (disch := omega) only [go_sem, g0, l0, g1, l1, hd, hin, hlen, htd, simprocAttr, passK_shut CxP96, QK.use hcy, passK_shut CxP97, QK.use how]
        exact no (by simp [vc, p1, p2]) _
      cases vo : ownB (L i).state <;> rw [vo] at how
      case true =>
        simp (disch := omega) only [go_sem, g0, l0, g1, l1, hd, hin, hlen, htd, simprocAttr, passK_shut CxP96, QK.use hcy, passK_shut CxP97, QK.use how]
        exact no (by simp [vc, vo, p2]) _
      cases hb : td.testBit i <;> rw [hb] at htd
      · simp (disch := omega) only [go_sem, g0, l0, g1, l1, hd, hin, hlen, htd, simprocAttr, passK_shut CxP96, QK.use hcy, passK_shut CxP97, QK.use how]
        exact no (by simp [vc, vo, p2, hb]) _
      · simp (disch := omega) only [go_sem, g0, l0, g1, l1, hd, hin, hlen, htd, simprocAttr, passK_shut CxP96, QK.use hcy, passK_shut CxP97, QK.use how]
        (rw [loop_norm (l := [3, 5, 54, 55, 56]) rfl]; simp (disch := omega) only [go_sem, simprocAttr])
        exact ih (by simp [vc, vo, p0, p1, p2, hb]) _
    cases vo : ownB (L i).state <;> rw [vo] at how
    · cases hb : td.testBit i <;> rw [hb] at htd
      · by_cases p1 : d.state = 2
        all_goals
          simp (disch := omega) only [go_sem, g0, l0, g1, l1, hd, hin, hlen, htd, simprocAttr, passK_shut CxP96, QK.use hcy, passK_shut CxP97, QK.use how]
          exact no (by simp [vc, vo, p2, hb]) _
      · by_cases p1 : d.state = 2
        all_goals
          simp (disch := omega) only [go_sem, g0, l0, g1, l1, hd, hin, hlen, htd, simprocAttr, passK_shut CxP96, QK.use hcy, passK_shut CxP97, QK.use how]
          (rw [loop_norm (l := [3, 5, 54, 55, 56]) rfl]; simp (disch := omega) only [go_sem, simprocAttr])
          exact ih (by simp [vc, vo, p0, p2, hb]) _
    · by_cases p1 : d.state = 2
      all_goals
        simp (disch := omega) only [go_sem, g0, l0, g1, l1, hd, hin, hlen, htd, simprocAttr, passK_shut CxP96, QK.use hcy, passK_shut CxP97, QK.use how]
        (rw [loop_norm (l := [3, 5, 54, 55, 56]) rfl]; simp (disch := omega) only [go_sem, simprocAttr])
        exact ih (by simp [vc, vo, p0, p2]) _
set_option maxHeartbeats 16000000 in
theorem pnoted_pass {H : Heap} {xb : Nat} {c h o s y l : Int} {d : Dr} {bl : Nat} {L : Nat → Ln} {n : Nat} {nv : A} {net : List Mg} (S : Scn H xb c h o s y l d bl L n nv net) (dk : d.Ok) (dr : d.Right n) (h1 : 1 ≤ n) (h4 : n ≤ 4) (hcn : c = n) {dst : Option Nat} {ms : List MOp} {e : Env} {k : List It} {Q : Ex → St → Prop}
    (hK : ∀ G, Ext H G → OpsK Cx 0 ms ⟨put e dst (bo (pnotedL d L n)), G⟩ k Q) : PassK Cx 68 [.ptr xb 0] dst ms ⟨e, H⟩ k Q := by
  have hx := S.x
  rw [hcn] at hx
  have lx := ap_low hx
  have hl := S.ls
  have ll := ap_low hl
  have hlen := encS_len L n
  have hto := told_ev h1 h4 dr.view
  obtain ⟨b1, b2⟩ := dk.state
  obtain ⟨b3, b4⟩ := dk.owner
  obtain ⟨b5, b6⟩ := dk.wait
  have hE : ∀ T, Ext H (H ++ T) := fun T => (Ext.refl H).app T
  have hD : (H ++ [some (⟨65, cD d, true⟩ : Blk)])[H.length]? = some (some ⟨65, cD d, true⟩) := ap_get0 ..
  have ho := dr.owner
  unfold pnotedL at hK
  rw [passK_in CxB68 CxP68]
  by_cases w0 : d.wait = 0
  case neg =>
    have := fun T => hK _ (hE T)
    rw [decide_eq_true (show d.wait ≠ 0 from w0)] at this
    simp only [Bool.true_or] at this
    simp (disch := omega) only [go_sem, hx, lx, simprocAttr]
    exact this _
  rw [decide_eq_false (show ¬ d.wait ≠ 0 from fun h => h w0)] at hK
  simp only [Bool.false_or] at hK
  have lp : ∀ (KK : List It) (H1 : Heap) (db : Nat), Ext H H1 → H1[db]? = some (some ⟨65, cD d, true⟩) → KK = .blk 1 :: .code (.seq (.reg [] [⟨some 2, .assign (.const (.bool true)), none⟩] 0) .ret) :: [] → pnD d L = true →
      RunK Cx (.code (.loop m68_l0) :: KK) ⟨[(3, .ptr db 0), (5, i64u (toldV d.kind d.mask d.all n)), (54, .ref bl 0 n 8), (55, i64 n), (56, i64 0)], H1⟩ (RetK Cx [.tmp 2] dst ms e k Q) := by
    intro KK H1 db hH1 hdb hKK hpd
    subst hKK
    rw [hpd] at hK
    simp only [Bool.true_and] at hK
    refine pnoted_loop dk h4 hdb (hH1.get hl) (told_lt h4 dr.view) (fun i _ => rfl) (fun q G hG => ?_) (fun q G hG => ?_) n 0 H1 (by omega) rfl (Ext.refl H1)
    · have := hK G (hH1.trans hG)
      rw [q] at this
      simp (disch := omega) only [go_sem, simprocAttr]
      exact this
    · have := hK G (hH1.trans hG)
      rw [q] at this
      simp (disch := omega) only [go_sem, simprocAttr]
      exact this
  have no : pnD d L = false → ∀ T, OpsK Cx 0 ms ⟨put e dst (bo false), H ++ T⟩ k Q := fun h T => by
    have := hK _ (hE T)
    rwa [h] at this
  clear hK
  unfold pnD at lp no
  by_cases s1 : d.state ≤ 1
  · rw [if_pos s1] at lp no
    by_cases o1 : d.owner = 255
    · have := lp _ _ _ (hE _) hD rfl (decide_eq_true o1)
      rcases (show d.state = 0 ∨ d.state = 1 by omega) with s0 | s0
      all_goals
        simp (disch := omega) only [go_sem, hx, lx, hl, ll, simprocAttr, passK_shut CxP98, QK.use hto]
        (rw [loop_norm (l := [3, 5, 54, 55, 56]) rfl]; simp (disch := omega) only [go_sem, simprocAttr])
        exact this
    · have := no (decide_eq_false o1)
      rcases (show d.state = 0 ∨ d.state = 1 by omega) with s0 | s0
      all_goals
        simp (disch := omega) only [go_sem, hx, lx, hl, ll, simprocAttr, passK_shut CxP98, QK.use hto]
        exact this _
  rw [if_neg s1] at lp no
  have s0 : ¬ d.state = 0 := by omega
  have s2 : ¬ d.state = 1 := by omega
  by_cases o1 : d.owner = 255
  · have := no (by simp [o1])
    simp (disch := omega) only [go_sem, hx, lx, hl, ll, simprocAttr]
    exact this _
  have hlt : d.owner < n := by omega
  have hin : d.owner.toNat < n := by omega
  obtain ⟨tl, hd⟩ := encS_get L hin
  have how := own_ev (L d.owner.toNat)
  generalize L d.owner.toNat = X at *
  have hD2 : (H ++ [some (⟨65, cD d, true⟩ : Blk), some (⟨83, cL X, true⟩ : Blk)])[H.length]? = some (some ⟨65, cD d, true⟩) := ap_get0 ..
  cases vo : ownB X.state <;> rw [vo] at how
  case true =>
    have := lp _ _ _ (hE _) hD2 rfl (by simp [o1, vo])
    simp (disch := omega) only [go_sem, hx, lx, hl, ll, hd, hlt, hin, hlen, List.append_assoc, List.length_append, simprocAttr, passK_shut CxP97, QK.use how, passK_shut CxP98, QK.use hto]
    (rw [loop_norm (l := [3, 5, 54, 55, 56]) rfl]; simp (disch := omega) only [go_sem, simprocAttr])
    exact this
  by_cases s10 : X.state = 10
  · have := lp _ _ _ (hE _) hD2 rfl (by simp [o1, s10])
    simp (disch := omega) only [go_sem, hx, lx, hl, ll, hd, hlt, hin, hlen, List.append_assoc, List.length_append, simprocAttr, passK_shut CxP97, QK.use how, passK_shut CxP98, QK.use hto]
    (rw [loop_norm (l := [3, 5, 54, 55, 56]) rfl]; simp (disch := omega) only [go_sem, simprocAttr])
    exact this
  · have := no (by simp [vo, s10])
    simp (disch := omega) only [go_sem, hx, lx, hl, ll, hd, hlt, hin, hlen, List.append_assoc, List.length_append, simprocAttr, passK_shut CxP97, QK.use how, passK_shut CxP98, QK.use hto]
    exact this _
end Go.Proofs.YtnhknhniemfnjaaGreatDoor.Ev
namespace Go.Proofs.YtnhknhniemfnjaaGreatDoor.Ev
open Go Go.RowKit
set_option maxRecDepth 100000
def atP (W : Nat → Nat → Ln) (s y : Int) (l : Nat) : Ln := match findR (W ((l : Int) % s).toNat) l 0 y.toNat with
  | some w => W ((l : Int) % s).toNat w
  | none => ⟨l, 0, 0, false, 0, 0, 0, 0⟩
structure InE (G : Heap) (ws ss : List A) (xb : Nat) (c h o s y : Int) (l : Nat) (d : Dr) (lv nv : A) : Prop where
  g0 : G[0]? = some (some ⟨44, ws, true⟩)
  g1 : G[1]? = some (some ⟨69, ss, true⟩)
  gx : G[xb]? = some (some ⟨108, [i64 c, i64 h, i64 o, i64 s, i64 y, i8 l, i8 d.state, i8 d.owner, i8 d.kind, i64u d.mask, bo d.all, i8 d.wait, i8 d.asker, i8 d.d0, i8 d.d1, i8 d.d2, i8 d.d3, lv, nv], true⟩)
  lo : 2 ≤ xb
theorem z9len : (List.map A.v (List.replicate 9 [Value.int IntKind.u8 0]).flatten).length = 9 := rfl
theorem z9drop : List.drop 9 (List.map A.v (List.replicate 9 [Value.int IntKind.u8 0]).flatten) = [] := rfl
theorem ass_getk (H l : Heap) (i j : Nat) (z x : Option Blk) (k : Nat) : ((H.set i z).set j x ++ l)[H.length + k]? = l[k]? := by
  have := as_getk (H.set i z) l j x k
  rwa [List.length_set] at this
theorem InE.app {G : Heap} {ws ss : List A} {xb : Nat} {c h o s y : Int} {l : Nat} {d : Dr} {lv nv : A} (E : InE G ws ss xb c h o s y l d lv nv) (T : Heap) : InE (G ++ T) ws ss xb c h o s y l d lv nv :=
  ⟨ap_low E.g0 T, ap_low E.g1 T, ap_low E.gx T, E.lo⟩
theorem InE.free {G : Heap} {ws ss : List A} {xb : Nat} {c h o s y : Int} {l : Nat} {d : Dr} {lv nv : A} (E : InE G ws ss xb c h o s y l d lv nv) {b : Nat} (hb : xb < b) (z : Option Blk) : InE (G.set b z) ws ss xb c h o s y l d lv nv :=
  ⟨set_other E.g0 (by have := E.lo; omega), set_other E.g1 (by have := E.lo; omega), set_other E.gx (by omega), E.lo⟩
theorem InE.put {G : Heap} {ws ss : List A} {xb : Nat} {c h o s y : Int} {l : Nat} {d : Dr} {lv nv : A} (E : InE G ws ss xb c h o s y l d lv nv) (lv nv : A) : InE (G.set xb (some ⟨108, [i64 c, i64 h, i64 o, i64 s, i64 y, i8 l, i8 d.state, i8 d.owner, i8 d.kind, i64u d.mask, bo d.all, i8 d.wait, i8 d.asker, i8 d.d0, i8 d.d1, i8 d.d2, i8 d.d3, lv, nv], true⟩)) ws ss xb c h o s y l d lv nv :=
  ⟨set_other E.g0 (by have := E.lo; omega), set_other E.g1 (by have := E.lo; omega), set_same E.gx _, E.lo⟩
def SlS (G : Heap) (xb : Nat) (L : Nat → Ln) (i : Nat) (lv : A) : Prop := (i = 0 ∧ lv = .v (.slice none 0 0)) ∨ (1 ≤ i ∧ ∃ bl, xb < bl ∧ lv = .ref bl 0 i 8 ∧ G[bl]? = some (some ⟨83, encS L i, false⟩))
theorem SlS.keep {G G' : Heap} {xb : Nat} {L : Nat → Ln} {i : Nat} {lv : A} (h : SlS G xb L i lv) (hk : ∀ b z, xb < b → G[b]? = some z → G'[b]? = some z) : SlS G' xb L i lv :=
  h.imp id fun ⟨h1, bl, h2, h3, h4⟩ => ⟨h1, bl, h2, h3, hk _ _ h2 h4⟩
set_option maxHeartbeats 16000000 in
theorem scene_lines {ws ss : List A} {c h o s y : Int} {net : List Mg} {J : List (List A)} {W : Nat → Nat → Nat → Ln} (I : InR ws ss c h o s y net J W) {xb l : Nat} (hl : l < 256) {d : Dr} {hv nl : A} {KK : List It} {Q : Ex → St → Prop}
    (hT : ∀ G lv, InE G ws ss xb c h o s y l d lv (.v (.slice none 0 0)) → SlS G xb (fun i => atP (W i) s y l) J.length lv → UnwK Cx (.out 2) KK ⟨[(39, bo false), (3, .ptr 0 0), (4, .ptr 1 0), (7, hv), (8, i8 l), (9, .ptr xb 0), (23, nl), (24, i8 l), (36, .sl J.length J.flatten), (37, i64 J.length), (38, i64 J.length)], G⟩ Q) :
    ∀ (e i : Nat) (G : Heap) (lv : A), i + e = J.length → InE G ws ss xb c h o s y l d lv (.v (.slice none 0 0)) → SlS G xb (fun i => atP (W i) s y l) i lv → RunK Cx (.code (.loop m22_l1) :: KK) ⟨[(3, .ptr 0 0), (4, .ptr 1 0), (7, hv), (8, i8 l), (9, .ptr xb 0), (23, nl), (24, i8 l), (36, .sl J.length J.flatten), (37, i64 J.length), (38, i64 i)], G⟩ Q := by
  obtain ⟨tw, hw⟩ := I.world.geo
  obtain ⟨ts, hs⟩ := I.caches.caches
  have w1 := I.world.len
  have w2 := I.world.one
  have s3 := I.sys.len
  have s4 := I.sys.one
  have hfl := flat_len I.caches.all
  have hk := I.ok
  have hmany := I.many
  intro e
  induction e with
  | zero =>
    intro i G lv hi E hv
    obtain rfl : i = J.length := by omega
    rw [runK_loop]
    simp (disch := omega) only [go_sem, Int.lt_irrefl, simprocAttr]
    exact hT G lv E hv
  | succ e ih =>
    intro i G lv hi E hv
    have hic : i < J.length := by omega
    obtain ⟨cs, hcs⟩ : ∃ cs, J[i]? = some cs := ⟨_, List.getElem?_eq_getElem hic⟩
    have hCi := I.caches.each i cs hcs
    obtain ⟨tl, hd⟩ := flat_drop I.caches.all hcs
    have hR := get_ev hCi hk (l := l) (by omega) (by omega)
    have hlc := hCi.len
    have hone := hCi.one
    have hsh := hCi.shut
    have hfz := hCi.fz
    have hta : List.take 160 cs = cs := List.take_of_length_le (by omega)
    have hi8 : i * 160 + 160 ≤ J.length * 160 := by omega
    have htc : List.take 160 (cs ++ tl) = cs := by rw [← hlc, List.take_left]
    have hlt : 160 ≤ (cs ++ tl).length := by rw [List.length_append]; omega
    have gw := E.g0
    have gs := E.g1
    have gx := E.gx
    have lw := ap_low gw
    have ls := ap_low gs
    have lx := ap_low gx
    have sx := ap_slow gx
    have hml : 1 ≤ maxLen := by decide
    have i4 : i < 4 := by
      obtain ⟨c1, c2, h1, h2, o1, o2, s1, s2, y1, y2⟩ := id hk
      omega
    have hm2 : i + 1 ≤ maxLen := by
      have : 7 ≤ maxLen := by decide
      omega
    have hxl := len_of gx
    have nx := fun G' lv' a b => ih (i + 1) G' lv' (by omega) a b
    simp only [Int.natCast_add, Int.natCast_one] at nx
    have eS : encS (fun i => atP (W i) s y l) (i + 1) = encS (fun i => atP (W i) s y l) i ++ cL (atP (W i) s y l) := rfl
    have hel := encS_len (fun i => atP (W i) s y l) i
    have htl : List.take (i * 8) (encS (fun i => atP (W i) s y l) i) = encS (fun i => atP (W i) s y l) i := List.take_of_length_le (by omega)
    have eA : atP (W i) s y l = match findR (W i ((l : Int) % s).toNat) l 0 y.toNat with
      | some w => W i ((l : Int) % s).toNat w
      | none => ⟨l, 0, 0, false, 0, 0, 0, 0⟩ := rfl
    clear ih
    rw [runK_loop]
    cases hr : findR (W i ((l : Int) % s).toNat) l 0 y.toNat with
    | some w =>
      rw [hr] at hR eA
      simp only at hR eA
      generalize W i ((l : Int) % s).toNat w = X at *
      rcases hv with ⟨h0, rfl⟩ | ⟨h1, bl, hb1, rfl, hb⟩
      · simp (disch := omega) only [go_sem, z9len, z9drop, hw, hs, hd, htc, hta, hlc, hone, hlt, hsh, hfz, w1, w2, s3, s4, hic, gw, gs, gx, lw, ls, lx, sx, hml, Nat.le_refl, List.length_set, List.append_assoc, List.length_append, simprocAttr, -List.reduceReplicate, passK_shut CxP40, QK.use hR]
        rw [loop_norm (l := [3, 4, 7, 8, 9, 23, 24, 36, 37, 38]) rfl]
        simp (disch := omega) only [go_sem, simprocAttr]
        subst h0
        refine nx _ _ ((E.put _ _).app _) (.inr ⟨by omega, G.length + 3, by omega, rfl, ?_⟩)
        rw [as_getk, eS, eA]
        rfl
      · have lb := ap_low hb
        have sb := ap_slow hb
        have xb1 := fun z => ap_low (set_other (y := z) gx (show bl ≠ xb by omega))
        have xs1 := fun z => ap_slow (set_other (y := z) gx (show bl ≠ xb by omega))
        simp (disch := omega) only [go_sem, z9len, z9drop, hw, hs, hd, htc, hta, hlc, hone, hlt, hsh, hfz, w1, w2, s3, s4, hic, gw, gs, gx, lw, ls, lx, sx, lb, sb, xb1, xs1, hml, hm2, hel, htl, Nat.le_refl, List.length_set, List.append_assoc, List.length_append, simprocAttr, -List.reduceReplicate, passK_shut CxP40, QK.use hR]
        rw [loop_norm (l := [3, 4, 7, 8, 9, 23, 24, 36, 37, 38]) rfl]
        simp (disch := omega) only [go_sem, simprocAttr]
        refine nx _ _ (((E.free hb1 _).put _ _).app _) (.inr ⟨by omega, G.length + 3, by omega, rfl, ?_⟩)
        rw [ass_getk, eS, eA]
        rfl
    | none =>
      rw [hr] at hR eA
      simp only [noLn] at hR eA
      rcases hv with ⟨h0, rfl⟩ | ⟨h1, bl, hb1, rfl, hb⟩
      · simp (disch := omega) only [go_sem, z9len, z9drop, hw, hs, hd, htc, hta, hlc, hone, hlt, hsh, hfz, w1, w2, s3, s4, hic, gw, gs, gx, lw, ls, lx, sx, hml, Nat.le_refl, List.length_set, List.append_assoc, List.length_append, simprocAttr, -List.reduceReplicate, passK_shut CxP40, QK.use hR]
        rw [loop_norm (l := [3, 4, 7, 8, 9, 23, 24, 36, 37, 38]) rfl]
        simp (disch := omega) only [go_sem, simprocAttr]
        subst h0
        refine nx _ _ ((E.put _ _).app _) (.inr ⟨by omega, G.length + 3, by omega, rfl, ?_⟩)
        rw [as_getk, eS, eA]
        rfl
      · have lb := ap_low hb
        have sb := ap_slow hb
        have xb1 := fun z => ap_low (set_other (y := z) gx (show bl ≠ xb by omega))
        have xs1 := fun z => ap_slow (set_other (y := z) gx (show bl ≠ xb by omega))
        simp (disch := omega) only [go_sem, z9len, z9drop, hw, hs, hd, htc, hta, hlc, hone, hlt, hsh, hfz, w1, w2, s3, s4, hic, gw, gs, gx, lw, ls, lx, sx, lb, sb, xb1, xs1, hml, hm2, hel, htl, Nat.le_refl, List.length_set, List.append_assoc, List.length_append, simprocAttr, -List.reduceReplicate, passK_shut CxP40, QK.use hR]
        rw [loop_norm (l := [3, 4, 7, 8, 9, 23, 24, 36, 37, 38]) rfl]
        simp (disch := omega) only [go_sem, simprocAttr]
        refine nx _ _ (((E.free hb1 _).put _ _).app _) (.inr ⟨by omega, G.length + 3, by omega, rfl, ?_⟩)
        rw [ass_getk, eS, eA]
        rfl
end Go.Proofs.YtnhknhniemfnjaaGreatDoor.Ev
namespace Go.Proofs.YtnhknhniemfnjaaGreatDoor.Ev
open Go Go.RowKit
set_option maxRecDepth 100000
def SlN (G : Heap) (bl : Nat) (M : List Mg) (nv : A) : Prop := (M = [] ∧ nv = (.v (.slice none 0 0))) ∨ (M ≠ [] ∧ ∃ bn, bl < bn ∧ nv = .ref bn 0 M.length 11 ∧ G[bn]? = some (some ⟨77, encN M, false⟩))
theorem ofL_snoc (l : Int) (pre : List Mg) (m : Mg) : ofL l (pre ++ [m]) = ofL l pre ++ if m.line = l then [m] else [] := by
  unfold ofL
  rw [List.filter_append]
  by_cases e : m.line = l <;> simp [e]
theorem ofL_len (l : Int) (net : List Mg) : (ofL l net).length ≤ net.length := List.length_filter_le ..
set_option maxHeartbeats 16000000 in
theorem scene_net {ws ss : List A} {c h o s y : Int} {net : List Mg} (hnet : net.length ≤ 40) {xb bl l : Nat} (hxb : xb < bl) {d : Dr} {hv nl lv : A} {LB : Option Blk} {KK : List It} {Q : Ex → St → Prop}
    (hT : ∀ G nv, InE G ws ss xb c h o s y l d lv nv → G[bl]? = some LB → SlN G bl (ofL l net) nv → UnwK Cx (.out 4) KK ⟨[(65, bo false), (3, .ptr 0 0), (4, .ptr 1 0), (7, hv), (8, i8 l), (9, .ptr xb 0), (23, nl), (24, i8 l), (62, .sl net.length (encN net)), (63, i64 net.length), (64, i64 net.length)], G⟩ Q) :
    ∀ (suf pre : List Mg) (G : Heap) (nv : A), net = pre ++ suf → InE G ws ss xb c h o s y l d lv nv → G[bl]? = some LB → SlN G bl (ofL l pre) nv → RunK Cx (.code (.loop m22_l2) :: KK) ⟨[(3, .ptr 0 0), (4, .ptr 1 0), (7, hv), (8, i8 l), (9, .ptr xb 0), (23, nl), (24, i8 l), (62, .sl net.length (encN net)), (63, i64 net.length), (64, i64 pre.length)], G⟩ Q := by
  intro suf
  induction suf with
  | nil =>
    intro pre G nv he E hL hv
    rw [List.append_nil] at he
    subst he
    rw [runK_loop]
    simp (disch := omega) only [go_sem, Int.lt_irrefl, simprocAttr]
    exact hT G nv E hL hv
  | cons m suf ih =>
    intro pre G nv he E hL hv
    have hlen : net.length = pre.length + (suf.length + 1) := by rw [he]; simp
    have hlt : pre.length < net.length := by omega
    have hdd : List.drop (pre.length * 11) (encN net) = cM m ++ encN suf := by rw [he]; exact encN_drop pre (m :: suf)
    have hll := encN_len net
    have gx := E.gx
    have lx := ap_low gx
    have sx := ap_slow gx
    have hml : 1 ≤ maxLen := by decide
    have hol := ofL_len l pre
    have hm2 : (ofL l pre).length + 1 ≤ maxLen := by
      have : 50 ≤ maxLen := by decide
      omega
    have hbl := len_of hL
    have nx := fun G' nv' a b c => ih (pre ++ [m]) G' nv' (by rw [he]; simp) a b c
    simp only [ofL_snoc, List.length_append, List.length_cons, List.length_nil, Nat.zero_add, Int.natCast_add, Int.natCast_one] at nx
    have hel := encN_len (ofL l pre)
    have htl : List.take ((ofL l pre).length * 11) (encN (ofL l pre)) = encN (ofL l pre) := List.take_of_length_le (by omega)
    clear ih
    generalize ofL l pre = M at *
    rw [runK_loop]
    by_cases q : m.line = l
    case neg =>
      rw [if_neg q, List.append_nil] at nx
      simp (disch := omega) only [go_sem, hdd, hlt, hll, gx, lx, sx, hml, Nat.le_refl, List.length_set, List.append_assoc, List.length_append, simprocAttr]
      rw [loop_norm (l := [3, 4, 7, 8, 9, 23, 24, 62, 63, 64]) rfl]
      simp (disch := omega) only [go_sem, simprocAttr]
      exact nx _ _ (E.app _) (ap_low hL _) (hv.imp id fun ⟨h1, bn, h2, h3, h4⟩ => ⟨h1, bn, h2, h3, ap_low h4 _⟩)
    rw [if_pos q] at nx
    rcases hv with ⟨h0, rfl⟩ | ⟨h1, bn, hb1, rfl, hb⟩
    · simp (disch := omega) only [go_sem, hdd, hlt, hll, gx, lx, sx, hml, Nat.le_refl, List.length_set, List.append_assoc, List.length_append, simprocAttr]
      rw [loop_norm (l := [3, 4, 7, 8, 9, 23, 24, 62, 63, 64]) rfl]
      simp (disch := omega) only [go_sem, simprocAttr]
      rw [h0] at nx
      refine nx _ _ ((E.put _ _).app _) (ap_low (set_other hL (by omega)) _) (.inr ⟨by simp, G.length + 2, by omega, rfl, ?_⟩)
      rw [as_getk]
      rfl
    · have lb := ap_low hb
      have sb := ap_slow hb
      have xb1 := fun z => ap_low (set_other (y := z) gx (show bn ≠ xb by omega))
      have xs1 := fun z => ap_slow (set_other (y := z) gx (show bn ≠ xb by omega))
      simp (disch := omega) only [go_sem, hdd, hlt, hll, gx, lx, sx, lb, sb, xb1, xs1, hml, hm2, hel, htl, Nat.le_refl, List.length_set, List.append_assoc, List.length_append, simprocAttr]
      rw [loop_norm (l := [3, 4, 7, 8, 9, 23, 24, 62, 63, 64]) rfl]
      simp (disch := omega) only [go_sem, simprocAttr]
      refine nx _ _ (((E.free (by omega) _).put _ _).app _) (ap_low (set_other (set_other hL (by omega)) (by omega)) _) (.inr ⟨by simp, G.length + 2, by omega, by simp, ?_⟩)
      rw [ass_getk, encN_app]
      rfl
end Go.Proofs.YtnhknhniemfnjaaGreatDoor.Ev
namespace Go.Proofs.YtnhknhniemfnjaaGreatDoor.Ev
open Go Go.RowKit
set_option maxRecDepth 100000
def InvP (f : FuncId) (c h o s y : Int) (l : Nat) (d : Dr) (L : Nat → Ln) (n : Nat) (net : List Mg) (b : Bool) : Prop :=
  ∀ (H : Heap) (xb bl : Nat) (nv : A), Scn H xb c h o s y l d bl L n nv net → ∀ (dst : Option Nat) (ms : List MOp) (e : Env) (k : List It) (Q : Ex → St → Prop), (∀ G, Ext H G → OpsK Cx 0 ms ⟨put e dst (bo b), G⟩ k Q) → PassK Cx f [.ptr xb 0] dst ms ⟨e, H⟩ k Q
set_option maxHeartbeats 16000000 in
theorem every_loop {ws ss : List A} {c h o s y : Int} {net : List Mg} {J : List (List A)} {W : Nat → Nat → Nat → Ln} (I : InR ws ss c h o s y net J W) (hnet : net.length ≤ 40) {D : Nat → Dr} (HD : SysH ss D) {f : FuncId} {k : Nat} (hk6 : k ≤ 6) {B : Nat → Bool}
    (hP : ∀ l, l < k → InvP f c h o s y l (D l) (fun i => atP (W i) s y l) J.length (ofL l net) (B l)) {KK : List It} {Q : Ex → St → Prop}
    (hN : allN B 0 k = false → ∀ G, UnwK Cx .back KK ⟨[(6, bo false)], G⟩ Q)
    (hT : allN B 0 k = true → ∀ G, UnwK Cx (.out 0) KK ⟨[(25, bo false), (3, .ptr 0 0), (4, .ptr 1 0), (7, .v (.func (.func f) #[] #[])), (23, i8 k), (24, i8 k)], G⟩ Q) :
    ∀ (e l : Nat) (G : Heap), l + e = k → allN B 0 k = allN B l e → G[0]? = some (some ⟨44, ws, true⟩) → G[1]? = some (some ⟨69, ss, true⟩) → RunK Cx (.code (.loop m22_l0) :: KK) ⟨[(3, .ptr 0 0), (4, .ptr 1 0), (7, .v (.func (.func f) #[] #[])), (23, i8 k), (24, i8 l)], G⟩ Q := by
  obtain ⟨tw, hw⟩ := I.world.geo
  obtain ⟨ts, hs⟩ := I.caches.caches
  have w1 := I.world.len
  have s3 := I.sys.len
  have hsn := I.sys.net
  intro e
  induction e with
  | zero =>
    intro l G hl hq _ _
    obtain rfl : l = k := by omega
    rw [runK_loop]
    simp (disch := omega) only [go_sem, Int.lt_irrefl, simprocAttr]
    exact hT hq G
  | succ e ih =>
    intro l G hl hq g0 g1
    have hlk : l < k := by omega
    have hl6 : l < 6 := by omega
    obtain ⟨tl, hd⟩ := HD.each l hl6
    have lw := ap_low g0
    have ls := ap_low g1
    have hG2 := len_of g1
    have ih := fun G' a b c => ih (l + 1) G' (by omega) a b c
    simp only [Int.natCast_add, Int.natCast_one] at ih
    simp only [allN] at hq
    rw [runK_loop]
    simp (disch := omega) only [go_sem, hw, hd, hs, w1, s3, g0, g1, lw, ls, hlk, hl6, Nat.zero_add, simprocAttr]
    rw [loop_norm (l := [3, 4, 7, 8, 9, 23, 24, 36, 37, 38]) rfl]
    simp (disch := omega) only [go_sem, simprocAttr]
    refine scene_lines I (by omega) (d := D l) (fun G1 lv E1 hv1 => ?_) J.length 0 _ _ (by omega) ⟨lw _, ls _, ap_get0 .., by omega⟩ (.inl ⟨rfl, rfl⟩)
    rcases hv1 with ⟨h0, -⟩ | ⟨hj1, bl, hb1, rfl, hb⟩
    · exfalso
      have hc := I.many
      have hk := I.ok
      unfold OkG at hk
      omega
    have g1' := E1.g1
    simp (disch := omega) only [go_sem, g1', s3, hsn, simprocAttr]
    rw [loop_norm (l := [3, 4, 7, 8, 9, 23, 24, 62, 63, 64]) rfl]
    simp (disch := omega) only [go_sem, simprocAttr]
    refine scene_net hnet hb1 (fun G2 nv E2 hL2 hv2 => ?_) net [] G1 _ rfl E1 hb (.inl ⟨rfl, rfl⟩)
    simp (disch := omega) only [go_sem, simprocAttr, Array.isEmpty_empty]
    have S : Scn G2 G.length c h o s y l (D l) bl (fun i => atP (W i) s y l) J.length nv (ofL l net) := ⟨E2.gx, hL2, hv2.imp id fun ⟨_, bn, _, h3, h4⟩ => ⟨bn, h3, h4⟩⟩
    refine hP l hlk G2 G.length bl nv S _ _ _ _ _ (fun G3 h3 => ?_)
    cases hB : B l
    · rw [hB] at hq
      simp (disch := omega) only [go_sem, simprocAttr]
      exact hN hq _
    · rw [hB] at hq
      simp (disch := omega) only [go_sem, simprocAttr]
      rw [loop_norm (l := [3, 4, 7, 23, 24]) rfl]
      simp (disch := omega) only [go_sem, simprocAttr]
      exact ih G3 hq (h3.get E2.g0) (h3.get E2.g1)
theorem invs_ev : EvQ Cx 37 [] (.agg [.v (.func (.func 66) #[] #[]), .v (.func (.func 67) #[] #[]), .v (.func (.func 68) #[] #[]), .v (.func (.func 69) #[] #[])]) := by
  refine evQ_of CxB37 rfl (by simp [fn37]) ?_
  simp (disch := omega) only [go_sem, simprocAttr]
def invF (j : Nat) : FuncId := if j = 0 then 66 else if j = 1 then 67 else if j = 2 then 68 else 69
set_option maxHeartbeats 16000000 in
theorem every_ev {ws ss : List A} {c h o s y : Int} {net : List Mg} {J : List (List A)} {W : Nat → Nat → Nat → Ln} (I : InR ws ss c h o s y net J W) (hnet : net.length ≤ 40) {D : Nat → Dr} (HD : SysH ss D) {j : Nat} (hj : j < 4) {k : Nat} (hk6 : (k : Int) = 5 / o + 1) {B : Nat → Bool}
    (hP : ∀ l, l < k → InvP (invF j) c h o s y l (D l) (fun i => atP (W i) s y l) J.length (ofL l net) (B l)) : EvQ Cx 22 [.agg ws, .agg ss, i64 j] (bo (allN B 0 k)) := by
  obtain ⟨tw, hw⟩ := I.world.geo
  have w1 := I.world.len
  have w2 := I.world.one
  have s3 := I.sys.len
  have s4 := I.sys.one
  have hL := glines_yes c h o s y I.ok
  rw [← hk6] at hL
  have hk := I.ok
  have k6 : k ≤ 6 := by
    obtain ⟨c1, c2, h1, h2, o1, o2, s1, s2, y1, y2⟩ := hk
    rcases (show o = 1 ∨ o = 2 ∨ o = 3 ∨ o = 4 by omega) with rfl | rfl | rfl | rfl <;> omega
  have hI := invs_ev
  refine evQ_of CxB22 rfl (by simp [fn22]) ?_
  rcases (show j = 0 ∨ j = 1 ∨ j = 2 ∨ j = 3 by omega) with rfl | rfl | rfl | rfl
  all_goals
    simp (disch := omega) only [go_sem, hw, w1, w2, s3, s4, Int.natCast_zero, Int.natCast_one, Int.cast_ofNat_Int, simprocAttr, passK_shut CxP31, QK.use hL, passK_shut CxP37, QK.use hI]
    rw [loop_norm (l := [3, 4, 7, 23, 24]) rfl]
    simp (disch := omega) only [go_sem, simprocAttr]
    refine every_loop I hnet HD k6 hP (fun q G => ?_) (fun q G => ?_) k 0 _ (by omega) rfl rfl rfl
    all_goals
      rw [q]
      simp (disch := omega) only [go_sem, simprocAttr]
end Go.Proofs.YtnhknhniemfnjaaGreatDoor.Ev
namespace Go.Proofs.YtnhknhniemfnjaaGreatDoor.Ev
open Go Go.RowKit
set_option maxRecDepth 100000
structure HW (H : Heap) (ws ss : List A) : Prop where
  g0 : H[0]? = some (some ⟨44, ws, true⟩)
  g1 : H[1]? = some (some ⟨69, ss, true⟩)
theorem HW.app {H : Heap} {ws ss : List A} (h : HW H ws ss) (T : Heap) : HW (H ++ T) ws ss := ⟨ap_low h.g0 T, ap_low h.g1 T⟩
set_option maxHeartbeats 16000000 in
theorem psh_caches {ws ss : List A} {c h o s y : Int} {net : List Mg} {J : List (List A)} {W : Nat → Nat → Nat → Ln} {N : Nat → Nat → Rp} (hW : WorldR ws c h o s y) (hC : SysC ss J W) (hO : ∀ i < J.length, CacheO (W i)) (hN : ∀ i cs, J[i]? = some cs → CacheN cs (N i)) (hJ : J.length ≤ 8) {KK : List It} {Q : Ex → St → Prop} :
    ∀ (e i : Nat) (H : Heap), i + e = J.length → HW H ws ss → (allN (fun i => rtagB c h o s y (W i) (N i)) i e = false → ∀ H, UnwK Cx .back KK ⟨[(4, bo false)], H⟩ Q) →
      (allN (fun i => rtagB c h o s y (W i) (N i)) i e = true → ∀ H, HW H ws ss → UnwK Cx (.out 0) KK ⟨[(27, bo false), (2, .ptr 0 0), (3, .ptr 1 0), (24, .sl J.length J.flatten), (25, i64 J.length), (26, i64 J.length)], H⟩ Q) →
      RunK Cx (.code (.loop m15_l0) :: KK) ⟨[(2, .ptr 0 0), (3, .ptr 1 0), (24, .sl J.length J.flatten), (25, i64 J.length), (26, i64 i)], H⟩ Q := by
  obtain ⟨tw, hw⟩ := hW.geo
  have w1 := hW.len
  have hfl := flat_len hC.all
  intro e
  induction e with
  | zero =>
    intro i H he hH _ hT
    obtain rfl : i = J.length := by omega
    have := hT rfl H hH
    rw [runK_loop]
    simp (disch := omega) only [go_sem, Int.lt_irrefl, simprocAttr]
    exact this
  | succ e ih =>
    intro i H he hH hF hT
    have hic : i < J.length := by omega
    obtain ⟨cs, hcs⟩ : ∃ cs, J[i]? = some cs := ⟨_, List.getElem?_eq_getElem hic⟩
    have hCi := hC.each i cs hcs
    obtain ⟨tl, hd⟩ := flat_drop hC.all hcs
    have hR := tags_ev hCi (hO i hic) (hN i cs hcs) c h o s y
    have hlc := hCi.len
    have hone := hCi.one
    have hsh := hCi.shut
    have hfz := hCi.fz
    have hta : List.take 160 cs = cs := List.take_of_length_le (by omega)
    have hi8 : i * 160 + 160 ≤ J.length * 160 := by omega
    have htc : List.take 160 (cs ++ tl) = cs := by rw [← hlc, List.take_left]
    have hlt : 160 ≤ (cs ++ tl).length := by rw [List.length_append]; omega
    have g0 := hH.g0
    have l0 := ap_low g0
    have ih := fun T a b => ih (i + 1) (H ++ T) (by omega) (hH.app T) a b
    simp only [Int.natCast_add, Int.natCast_one] at ih
    simp only [allN] at hF hT
    rw [runK_loop]
    cases hr : rtagB c h o s y (W i) (N i) <;> rw [hr] at hF hT hR
    · simp (disch := omega) only [go_sem, z9len, z9drop, hw, hd, htc, hta, hlc, hone, hlt, hsh, hfz, w1, hic, g0, l0, Nat.le_refl, simprocAttr, -List.reduceReplicate, passK_shut CxP29, QK.use hR]
      exact hF rfl _
    · simp (disch := omega) only [go_sem, z9len, z9drop, hw, hd, htc, hta, hlc, hone, hlt, hsh, hfz, w1, hic, g0, l0, Nat.le_refl, simprocAttr, -List.reduceReplicate, passK_shut CxP29, QK.use hR]
      rw [loop_norm (l := [2, 3, 24, 25, 26]) rfl]
      simp (disch := omega) only [go_sem, simprocAttr]
      exact ih _ hF hT
set_option maxHeartbeats 16000000 in
theorem psh_net {ws ss : List A} {c h o s y : Int} {net : List Mg} (hk : OkG c h o s y) (hW : WorldR ws c h o s y) (hok : ∀ m ∈ net, m.Ok) (hn : net.length ≤ 4611686018427387904) {KK : List It} {Q : Ex → St → Prop} :
    ∀ (suf pre : List Mg) (H : Heap), net = pre ++ suf → HW H ws ss → (suf.all (refB c h o) = false → ∀ H, UnwK Cx .back KK ⟨[(4, bo false)], H⟩ Q) →
      (suf.all (refB c h o) = true → ∀ H, HW H ws ss → UnwK Cx (.out 2) KK ⟨[(40, bo false), (2, .ptr 0 0), (3, .ptr 1 0), (37, .sl net.length (encN net)), (38, i64 net.length), (39, i64 net.length)], H⟩ Q) →
      RunK Cx (.code (.loop m15_l1) :: KK) ⟨[(2, .ptr 0 0), (3, .ptr 1 0), (37, .sl net.length (encN net)), (38, i64 net.length), (39, i64 pre.length)], H⟩ Q := by
  obtain ⟨tw, hw⟩ := hW.geo
  have w1 := hW.len
  intro suf
  induction suf with
  | nil =>
    intro pre H he hH _ hT
    rw [List.append_nil] at he
    subst he
    have := hT rfl H hH
    rw [runK_loop]
    simp (disch := omega) only [go_sem, Int.lt_irrefl, simprocAttr]
    exact this
  | cons m suf ih =>
    intro pre H he hH hF hT
    have hm : m ∈ net := by rw [he]; simp
    have hR := mright_ev (hok m hm) hk
    rw [msg_same (hok m hm) hk] at hR
    have hlen : net.length = pre.length + (suf.length + 1) := by rw [he]; simp
    have hlt : pre.length < net.length := by omega
    have hdd : List.drop (pre.length * 11) (encN net) = cM m ++ encN suf := by rw [he]; exact encN_drop pre (m :: suf)
    have hll := encN_len net
    have g0 := hH.g0
    have l0 := ap_low g0
    have ih := fun T a b => ih (pre ++ [m]) (H ++ T) (by rw [he]; simp) (hH.app T) a b
    simp only [List.length_append, List.length_cons, List.length_nil, Nat.zero_add, Int.natCast_add, Int.natCast_one] at ih
    rw [List.all_cons] at hF hT
    rw [runK_loop]
    cases hr : refB c h o m <;> rw [hr] at hF hT hR
    · simp (disch := omega) only [go_sem, hw, w1, g0, l0, hdd, hlt, hll, List.length_append, Nat.le_refl, simprocAttr, passK_shut CxP30, QK.use hR]
      exact hF rfl _
    · simp (disch := omega) only [go_sem, hw, w1, g0, l0, hdd, hlt, hll, List.length_append, Nat.le_refl, simprocAttr, passK_shut CxP30, QK.use hR]
      rw [loop_norm (l := [2, 3, 37, 38, 39]) rfl]
      simp (disch := omega) only [go_sem, simprocAttr]
      exact ih _ hF hT
set_option maxHeartbeats 16000000 in
theorem psh_homes {ws ss : List A} {c h o s y : Int} {net : List Mg} {D : Nat → Dr} (hk : OkG c h o s y) (hW : WorldR ws c h o s y) (hS : SysR ss net) (hD : SysH ss D) (hM : SysM D) {k : Nat} (k6 : k ≤ 6) {KK : List It} {Q : Ex → St → Prop} :
    ∀ (e n : Nat) (H : Heap), n + e = k → HW H ws ss → (allN (fun n => homeB c.toNat (D n)) n e = false → ∀ H, UnwK Cx .back KK ⟨[(4, bo false)], H⟩ Q) →
      (allN (fun n => homeB c.toNat (D n)) n e = true → ∀ H, UnwK Cx (.out 4) KK ⟨[(53, bo false), (2, .ptr 0 0), (3, .ptr 1 0), (51, i64 k), (52, i64 k)], H⟩ Q) →
      RunK Cx (.code (.loop m15_l2) :: KK) ⟨[(2, .ptr 0 0), (3, .ptr 1 0), (51, i64 k), (52, i64 n)], H⟩ Q := by
  obtain ⟨tw, hw⟩ := hW.geo
  have w1 := hW.len
  have s3 := hS.len
  intro e
  induction e with
  | zero =>
    intro n H he hH _ hT
    obtain rfl : n = k := by omega
    have := hT rfl H
    rw [runK_loop]
    simp (disch := omega) only [go_sem, Int.lt_irrefl, simprocAttr]
    exact this
  | succ e ih =>
    intro n H he hH hF hT
    have hnk : n < k := by omega
    have hn6 : n < 6 := by omega
    obtain ⟨tl, hd⟩ := hD.each n hn6
    have hR := entry_ev (hD.ok n hn6) (hM.mask n hn6) hk
    have g0 := hH.g0
    have g1 := hH.g1
    have ih := fun a b => ih (n + 1) H (by omega) hH a b
    simp only [Int.natCast_add, Int.natCast_one] at ih
    simp only [allN] at hF hT
    rw [runK_loop]
    cases hr : homeB c.toNat (D n) <;> rw [hr] at hF hT hR
    · simp (disch := omega) only [go_sem, hw, w1, s3, g0, g1, hd, hnk, hn6, simprocAttr, passK_shut CxP32, QK.use hR]
      exact hF rfl _
    · simp (disch := omega) only [go_sem, hw, w1, s3, g0, g1, hd, hnk, hn6, simprocAttr, passK_shut CxP32, QK.use hR]
      rw [loop_norm (l := [2, 3, 51, 52]) rfl]
      simp (disch := omega) only [go_sem, simprocAttr]
      exact ih hF hT
set_option maxHeartbeats 8000000 in
theorem pshaped_ev {ws ss : List A} {c h o s y : Int} {net : List Mg} {J : List (List A)} {W : Nat → Nat → Nat → Ln} {N : Nat → Nat → Rp} {D : Nat → Dr} (hW : WorldR ws c h o s y) (T : StateR ss net J W N D) : EvQ Cx 15 [.agg ws, .agg ss] (bo (rshapeB c h o s y J.length W N net D)) := by
  obtain ⟨tw, hw⟩ := hW.geo
  obtain ⟨ts, hs⟩ := T.caches.caches
  have w1 := hW.len
  have w2 := hW.one
  have s3 := T.sys.len
  have s4 := T.sys.one
  have hsn := T.sys.net
  have hR := gright_ev c h o s y
  unfold rshapeB
  refine evQ_of CxB15 rfl (by simp [fn15]) ?_
  by_cases hk : OkG c h o s y
  case neg =>
    rw [decide_eq_false hk] at hR ⊢
    simp (disch := omega) only [go_sem, hw, hs, w1, w2, s3, s4, simprocAttr, passK_shut CxP28, QK.use hR]
  rw [decide_eq_true hk] at hR ⊢
  by_cases hj : (J.length : Int) = c
  case neg =>
    rw [decide_eq_false hj]
    simp (disch := omega) only [go_sem, hw, hs, w1, w2, s3, s4, simprocAttr, passK_shut CxP28, QK.use hR]
  rw [decide_eq_true hj, Bool.true_and, Bool.true_and]
  have hL := glines_yes c h o s y hk
  obtain ⟨k, hk6⟩ : ∃ k : Nat, (k : Int) = 5 / o + 1 := ⟨(5 / o + 1).toNat, by
    have := Int.ediv_nonneg (show (0 : Int) ≤ 5 by omega) (show 0 ≤ o by have := hk; unfold OkG at this; omega)
    omega⟩
  have k6 : k ≤ 6 := by
    obtain ⟨c1, c2, h1, h2, o1, o2, s1, s2, y1, y2⟩ := hk
    rcases (show o = 1 ∨ o = 2 ∨ o = 3 ∨ o = 4 by omega) with rfl | rfl | rfl | rfl <;> omega
  rw [← hk6] at hL ⊢
  rw [Int.toNat_natCast]
  simp (disch := omega) only [go_sem, hw, hs, w1, w2, s3, s4, simprocAttr, passK_shut CxP28, QK.use hR]
  rw [loop_norm (l := [2, 3, 24, 25, 26]) rfl]
  simp (disch := omega) only [go_sem, simprocAttr]
  refine psh_caches (net := net) hW T.caches T.cok T.notes T.few J.length 0 _ (by omega) ⟨rfl, rfl⟩ (fun q H => ?_) fun q H hH => ?_
  · rw [q]
    simp (disch := omega) only [go_sem, simprocAttr]
  rw [q, Bool.true_and]
  have g1 := hH.g1
  simp (disch := omega) only [go_sem, g1, s3, hsn, simprocAttr]
  rw [loop_norm (l := [2, 3, 37, 38, 39]) rfl]
  simp (disch := omega) only [go_sem, simprocAttr]
  refine psh_net hk hW T.nok (by have := T.some; omega) net [] H rfl hH (fun q H => ?_) fun q H hH => ?_
  · rw [q]
    simp (disch := omega) only [go_sem, simprocAttr]
  rw [q, Bool.true_and]
  have g0 := hH.g0
  clear g1
  simp (disch := omega) only [go_sem, g0, hw, w1, simprocAttr, passK_shut CxP31, QK.use hL]
  rw [loop_norm (l := [2, 3, 51, 52]) rfl]
  simp (disch := omega) only [go_sem, simprocAttr]
  refine psh_homes hk hW T.sys T.homes T.masks k6 k 0 H (by omega) hH (fun q H => ?_) fun q H => ?_
  all_goals
    rw [q]
    simp (disch := omega) only [go_sem, simprocAttr]
end Go.Proofs.YtnhknhniemfnjaaGreatDoor.Ev
namespace Go.Proofs.YtnhknhniemfnjaaGreatDoor.Ev
open Go Go.RowKit
set_option maxRecDepth 100000
theorem atP_eq (W : Nat → Nat → Ln) (s y : Int) (l : Nat) : atP W s y l = { atL W s y l with line := (atP W s y l).line } := by
  unfold atP atL
  cases findR (W ((l : Int) % s).toNat) l 0 y.toNat <;> rfl
theorem swmrL_line (L : Nat → Ln) (v : Nat → Int) (n : Nat) : swmrL (fun i => { L i with line := v i }) n = swmrL L n := rfl
theorem freshL_line (d : Dr) (L : Nat → Ln) (v : Nat → Int) (n : Nat) : freshL d (fun i => { L i with line := v i }) n = freshL d L n := rfl
theorem notedL_line (d : Dr) (L : Nat → Ln) (v : Nat → Int) (n : Nat) : notedL d (fun i => { L i with line := v i }) n = notedL d L n := rfl
theorem hasN_line (L : Nat → Ln) (v : Nat → Int) : ∀ n, hasN (fun i => { L i with line := v i }) n = hasN L n
  | 0 => rfl
  | n + 1 => by rw [hasN, hasN, hasN_line L v n]
theorem pairedL_line (d : Dr) (L : Nat → Ln) (v : Nat → Int) (net : List Mg) (k : Int) (n : Nat) : pairedL d (fun i => { L i with line := v i }) net k n = pairedL d L net k n := by
  unfold pairedL
  rw [hasN_line]
  rfl
theorem lineB_atP (i : Nat) (d : Dr) (W : Nat → Nat → Nat → Ln) (s y : Int) (l : Nat) (net : List Mg) (n k : Nat) : lineB i d (fun x => atP (W x) s y l) net n k = lineB i d (fun x => atL (W x) s y l) net n k := by
  have e : (fun x => atP (W x) s y l) = fun x => { atL (W x) s y l with line := (atP (W x) s y l).line } := funext fun x => atP_eq (W x) s y l
  rw [e]
  unfold lineB
  rw [swmrL_line, freshL_line, notedL_line, pairedL_line]
def hB (c h o s y : Int) (k : Nat) (W : Nat → Nat → Nat → Ln) (N : Nat → Nat → Rp) (net : List Mg) (D : Nat → Dr) (i : Nat) : Bool :=
  rshapeB c h o s y k W N net D && allN (fun n => lineB i (D n) (fun x => atL (W x) s y n) net n k) 0 (5 / o + 1).toNat
structure Shp (c h o s y : Int) (J : List (List A)) (W : Nat → Nat → Nat → Ln) (N : Nat → Nat → Rp) (net : List Mg) (D : Nat → Dr) : Prop where
  ok : OkG c h o s y
  many : c = J.length
  one : 1 ≤ J.length
  four : J.length ≤ 4
  right : ∀ n : Nat, n < (5 / o + 1).toNat → (D n).Right J.length
  lines : (((5 / o + 1).toNat : Nat) : Int) = 5 / o + 1
  six : (5 / o + 1).toNat ≤ 6
theorem shp_of {c h o s y : Int} {net : List Mg} {J : List (List A)} {W : Nat → Nat → Nat → Ln} {N : Nat → Nat → Rp} {D : Nat → Dr} (hs : rshapeB c h o s y J.length W N net D = true) : Shp c h o s y J W N net D := by
  unfold rshapeB at hs
  simp only [Bool.and_eq_true, decide_eq_true_eq] at hs
  obtain ⟨hk, hj, -, -, hh⟩ := hs
  have hd := hk
  obtain ⟨c1, c2, h1, h2, o1, o2, s1, s2, y1, y2⟩ := id hk
  have l6 : 0 ≤ 5 / o + 1 ∧ 5 / o + 1 ≤ 6 := by
    rcases (show o = 1 ∨ o = 2 ∨ o = 3 ∨ o = 4 by omega) with rfl | rfl | rfl | rfl <;> decide
  refine ⟨hk, hj.symm, by omega, by omega, fun n hn => ?_, by omega, by omega⟩
  have := (allN_zero _ _).1 hh n hn
  unfold homeB at this
  simp only [Bool.and_eq_true, decide_eq_true_eq] at this
  obtain ⟨a1, a2, a3, a4, a5⟩ := this
  have hcn : c.toNat = J.length := by omega
  rw [hcn] at a3 a4 a5
  exact ⟨a5, a1, a2, a3, a4⟩
theorem StateR.inR {ws ss : List A} {c h o s y : Int} {net : List Mg} {J : List (List A)} {W : Nat → Nat → Nat → Ln} {N : Nat → Nat → Rp} {D : Nat → Dr} (hW : WorldR ws c h o s y) (T : StateR ss net J W N D) (S : Shp c h o s y J W N net D) : InR ws ss c h o s y net J W := ⟨hW, T.sys, T.caches, S.ok, S.many⟩
theorem inv_line {ws ss : List A} {c h o s y : Int} {net : List Mg} {J : List (List A)} {W : Nat → Nat → Nat → Ln} {N : Nat → Nat → Rp} {D : Nat → Dr} (hW : WorldR ws c h o s y) (T : StateR ss net J W N D) (S : Shp c h o s y J W N net D) {j : Nat} (hj : j < 4) {l : Nat} (hl : l < (5 / o + 1).toNat) :
    InvP (invF j) c h o s y l (D l) (fun i => atP (W i) s y l) J.length (ofL l net) (lineB (j + 1) (D l) (fun x => atL (W x) s y l) net l J.length) := by
  have h6 := S.six
  have dk := T.homes.ok l (by omega)
  have dr := S.right l hl
  have hn : (ofL l net).length ≤ 100 := by
    have := ofL_len l net
    have := T.some
    omega
  have hok : ∀ m ∈ ofL l net, m.Ok := fun m hm => T.nok m (List.mem_filter.1 hm).1
  rw [← lineB_atP]
  intro H xb bl nv Sc dst ms e k Q hK
  rcases (show j = 0 ∨ j = 1 ∨ j = 2 ∨ j = 3 by omega) with rfl | rfl | rfl | rfl
  · refine pswmr_pass Sc S.four (fun G hG => ?_)
    rw [psw_same]
    exact hK G hG
  · refine pfresh_pass Sc S.four dk dr.owner (fun G hG => ?_)
    rw [pfresh_same S.four dk dr]
    exact hK G hG
  · refine pnoted_pass Sc dk dr S.one S.four S.many (fun G hG => ?_)
    rw [pnoted_same S.four dk dr]
    exact hK G hG
  · refine ppaired_pass Sc hn hok dk dr.wait S.four (fun G hG => ?_)
    rw [ppaired_same]
    exact hK G hG
theorem pevery_ev {ws ss : List A} {c h o s y : Int} {net : List Mg} {J : List (List A)} {W : Nat → Nat → Nat → Ln} {N : Nat → Nat → Rp} {D : Nat → Dr} (hW : WorldR ws c h o s y) (T : StateR ss net J W N D) (S : Shp c h o s y J W N net D) {j : Nat} (hj : j < 4) : EvQ Cx 22 [.agg ws, .agg ss, i64 j] (bo (allN (fun n => lineB (j + 1) (D n) (fun x => atL (W x) s y n) net n J.length) 0 (5 / o + 1).toNat)) :=
  every_ev (T.inR hW S) T.some T.homes hj S.lines fun l hl => inv_line hW T S hj hl
set_option maxHeartbeats 8000000 in
theorem pSwmr_ev {ws ss : List A} {c h o s y : Int} {net : List Mg} {J : List (List A)} {W : Nat → Nat → Nat → Ln} {N : Nat → Nat → Rp} {D : Nat → Dr} (hW : WorldR ws c h o s y) (T : StateR ss net J W N D) : EvQ Cx 10 [.agg ws, .agg ss] (bo (hB c h o s y J.length W N net D 1)) := by
  have w1 := hW.len; have w2 := hW.one; have s3 := T.sys.len; have s4 := T.sys.one; have hwt : List.take 585 ws = ws := List.take_of_length_le (by omega); have hst : List.take 69 ss = ss := List.take_of_length_le (by omega); have hwf := hW.fz; have hsf := T.sys.fz; have hwh := hW.shut; have hsh := T.sys.shut; have hS := pshaped_ev hW T
  unfold hB
  refine evQ_of CxB10 rfl (by simp [fn10]) ?_
  cases hs : rshapeB c h o s y J.length W N net D <;> rw [hs] at hS
  · simp (disch := omega) only [go_sem, w1, w2, s3, s4, hwt, hst, hwf, hsf, hwh, hsh, simprocAttr, passK_shut CxP15, QK.use hS]
  · have hE := pevery_ev hW T (shp_of hs) (j := 0) (by omega)
    rw [Bool.true_and]
    simp only [i64, Int.natCast_zero, Int.natCast_one, Int.cast_ofNat_Int, Nat.zero_add, Nat.reduceAdd] at hE
    simp (disch := omega) only [go_sem, w1, w2, s3, s4, hwt, hst, hwf, hsf, hwh, hsh, simprocAttr, passK_shut CxP15, QK.use hS, passK_shut CxP22, QK.use hE]
set_option maxHeartbeats 8000000 in
theorem pFresh_ev {ws ss : List A} {c h o s y : Int} {net : List Mg} {J : List (List A)} {W : Nat → Nat → Nat → Ln} {N : Nat → Nat → Rp} {D : Nat → Dr} (hW : WorldR ws c h o s y) (T : StateR ss net J W N D) : EvQ Cx 11 [.agg ws, .agg ss] (bo (hB c h o s y J.length W N net D 2)) := by
  have w1 := hW.len; have w2 := hW.one; have s3 := T.sys.len; have s4 := T.sys.one; have hwt : List.take 585 ws = ws := List.take_of_length_le (by omega); have hst : List.take 69 ss = ss := List.take_of_length_le (by omega); have hwf := hW.fz; have hsf := T.sys.fz; have hwh := hW.shut; have hsh := T.sys.shut; have hS := pshaped_ev hW T
  unfold hB
  refine evQ_of CxB11 rfl (by simp [fn11]) ?_
  cases hs : rshapeB c h o s y J.length W N net D <;> rw [hs] at hS
  · simp (disch := omega) only [go_sem, w1, w2, s3, s4, hwt, hst, hwf, hsf, hwh, hsh, simprocAttr, passK_shut CxP15, QK.use hS]
  · have hE := pevery_ev hW T (shp_of hs) (j := 1) (by omega)
    rw [Bool.true_and]
    simp only [i64, Int.natCast_zero, Int.natCast_one, Int.cast_ofNat_Int, Nat.zero_add, Nat.reduceAdd] at hE
    simp (disch := omega) only [go_sem, w1, w2, s3, s4, hwt, hst, hwf, hsf, hwh, hsh, simprocAttr, passK_shut CxP15, QK.use hS, passK_shut CxP22, QK.use hE]
set_option maxHeartbeats 8000000 in
theorem pNoted_ev {ws ss : List A} {c h o s y : Int} {net : List Mg} {J : List (List A)} {W : Nat → Nat → Nat → Ln} {N : Nat → Nat → Rp} {D : Nat → Dr} (hW : WorldR ws c h o s y) (T : StateR ss net J W N D) : EvQ Cx 12 [.agg ws, .agg ss] (bo (hB c h o s y J.length W N net D 3)) := by
  have w1 := hW.len; have w2 := hW.one; have s3 := T.sys.len; have s4 := T.sys.one; have hwt : List.take 585 ws = ws := List.take_of_length_le (by omega); have hst : List.take 69 ss = ss := List.take_of_length_le (by omega); have hwf := hW.fz; have hsf := T.sys.fz; have hwh := hW.shut; have hsh := T.sys.shut; have hS := pshaped_ev hW T
  unfold hB
  refine evQ_of CxB12 rfl (by simp [fn12]) ?_
  cases hs : rshapeB c h o s y J.length W N net D <;> rw [hs] at hS
  · simp (disch := omega) only [go_sem, w1, w2, s3, s4, hwt, hst, hwf, hsf, hwh, hsh, simprocAttr, passK_shut CxP15, QK.use hS]
  · have hE := pevery_ev hW T (shp_of hs) (j := 2) (by omega)
    rw [Bool.true_and]
    simp only [i64, Int.natCast_zero, Int.natCast_one, Int.cast_ofNat_Int, Nat.zero_add, Nat.reduceAdd] at hE
    simp (disch := omega) only [go_sem, w1, w2, s3, s4, hwt, hst, hwf, hsf, hwh, hsh, simprocAttr, passK_shut CxP15, QK.use hS, passK_shut CxP22, QK.use hE]
set_option maxHeartbeats 8000000 in
theorem pPaired_ev {ws ss : List A} {c h o s y : Int} {net : List Mg} {J : List (List A)} {W : Nat → Nat → Nat → Ln} {N : Nat → Nat → Rp} {D : Nat → Dr} (hW : WorldR ws c h o s y) (T : StateR ss net J W N D) : EvQ Cx 13 [.agg ws, .agg ss] (bo (hB c h o s y J.length W N net D 4)) := by
  have w1 := hW.len; have w2 := hW.one; have s3 := T.sys.len; have s4 := T.sys.one; have hwt : List.take 585 ws = ws := List.take_of_length_le (by omega); have hst : List.take 69 ss = ss := List.take_of_length_le (by omega); have hwf := hW.fz; have hsf := T.sys.fz; have hwh := hW.shut; have hsh := T.sys.shut; have hS := pshaped_ev hW T
  unfold hB
  refine evQ_of CxB13 rfl (by simp [fn13]) ?_
  cases hs : rshapeB c h o s y J.length W N net D <;> rw [hs] at hS
  · simp (disch := omega) only [go_sem, w1, w2, s3, s4, hwt, hst, hwf, hsf, hwh, hsh, simprocAttr, passK_shut CxP15, QK.use hS]
  · have hE := pevery_ev hW T (shp_of hs) (j := 3) (by omega)
    rw [Bool.true_and]
    simp only [i64, Int.natCast_zero, Int.natCast_one, Int.cast_ofNat_Int, Nat.zero_add, Nat.reduceAdd] at hE
    simp (disch := omega) only [go_sem, w1, w2, s3, s4, hwt, hst, hwf, hsf, hwh, hsh, simprocAttr, passK_shut CxP15, QK.use hS, passK_shut CxP22, QK.use hE]
end Go.Proofs.YtnhknhniemfnjaaGreatDoor.Ev
namespace Go.Proofs.YtnhknhniemfnjaaGreatDoor.Ev
open Go Go.RowKit
set_option maxRecDepth 100000
def brkB (sh a1 a2 a3 a4 : Bool) : Int := if !sh then 1 else if !a1 then 2 else if !a2 then 3 else if !a3 then 4 else if !a4 then 5 else 0
def brk (c h o s y : Int) (k : Nat) (W : Nat → Nat → Nat → Ln) (N : Nat → Nat → Rp) (net : List Mg) (D : Nat → Dr) : Int :=
  brkB (rshapeB c h o s y k W N net D) (hB c h o s y k W N net D 1) (hB c h o s y k W N net D 2) (hB c h o s y k W N net D 3) (hB c h o s y k W N net D 4)
set_option maxHeartbeats 8000000 in
theorem pbr_step {ws ss : List A} {c h o s y : Int} {net : List Mg} {J : List (List A)} {W : Nat → Nat → Nat → Ln} {N : Nat → Nat → Rp} {D : Nat → Dr} (hW : WorldR ws c h o s y) (T : StateR ss net J W N D) (S : Shp c h o s y J W N net D) {j : Nat} (hj : j < 4) {KK : List It} {Q : Ex → St → Prop}
    (hN : allN (fun n => lineB (j + 1) (D n) (fun x => atL (W x) s y n) net n J.length) 0 (5 / o + 1).toNat = false → ∀ e', UnwK Cx .back KK ⟨(4, i8 ((j : Int) + 2)) :: e', [some ⟨44, ws, true⟩, some ⟨69, ss, true⟩]⟩ Q)
    (hT : allN (fun n => lineB (j + 1) (D n) (fun x => atL (W x) s y n) net n J.length) 0 (5 / o + 1).toNat = true → RunK Cx (.code (.loop m17_l0) :: KK) ⟨[(2, .ptr 0 0), (3, .ptr 1 0), (11, i64 4), (12, i64 ((j : Int) + 1))], [some ⟨44, ws, true⟩, some ⟨69, ss, true⟩]⟩ Q) :
    RunK Cx (.code (.loop m17_l0) :: KK) ⟨[(2, .ptr 0 0), (3, .ptr 1 0), (11, i64 4), (12, i64 j)], [some ⟨44, ws, true⟩, some ⟨69, ss, true⟩]⟩ Q := by
  have w1 := hW.len; have w2 := hW.one; have s3 := T.sys.len; have s4 := T.sys.one; have hwt : List.take 585 ws = ws := List.take_of_length_le (by omega); have hst : List.take 69 ss = ss := List.take_of_length_le (by omega); have hwf := hW.fz; have hsf := T.sys.fz; have hwh := hW.shut; have hsh := T.sys.shut
  have hE := pevery_ev hW T S hj
  rw [runK_loop]
  cases hb : allN (fun n => lineB (j + 1) (D n) (fun x => atL (W x) s y n) net n J.length) 0 (5 / o + 1).toNat <;> rw [hb] at hE
  · have := fun e' => hN hb e'
    rw [Int.add_comm] at this
    simp (disch := omega) only [go_sem, w1, w2, s3, s4, hwt, hst, hwf, hsf, hwh, hsh, simprocAttr, passK_shut CxP22, QK.use hE]
    exact this _
  · simp (disch := omega) only [go_sem, w1, w2, s3, s4, hwt, hst, hwf, hsf, hwh, hsh, simprocAttr, passK_shut CxP22, QK.use hE]
    rw [loop_norm (l := [2, 3, 11, 12]) rfl]
    simp (disch := omega) only [go_sem, simprocAttr]
    exact hT hb
set_option maxHeartbeats 8000000 in
theorem pbroken_ev {ws ss : List A} {c h o s y : Int} {net : List Mg} {J : List (List A)} {W : Nat → Nat → Nat → Ln} {N : Nat → Nat → Rp} {D : Nat → Dr} (hW : WorldR ws c h o s y) (T : StateR ss net J W N D) : EvQ Cx 17 [.agg ws, .agg ss] (i8 (brk c h o s y J.length W N net D)) := by
  have w1 := hW.len; have w2 := hW.one; have s3 := T.sys.len; have s4 := T.sys.one; have hwt : List.take 585 ws = ws := List.take_of_length_le (by omega); have hst : List.take 69 ss = ss := List.take_of_length_le (by omega); have hwf := hW.fz; have hsf := T.sys.fz; have hwh := hW.shut; have hsh := T.sys.shut
  have hS := pshaped_ev hW T
  have hI := invs_ev
  refine evQ_of CxB17 rfl (by simp [fn17]) ?_
  unfold brk hB
  cases hs : rshapeB c h o s y J.length W N net D <;> rw [hs] at hS
  · simp (disch := omega) only [go_sem, w1, w2, s3, s4, hwt, hst, hwf, hsf, hwh, hsh, simprocAttr, passK_shut CxP15, QK.use hS, brkB]
  have S := shp_of hs
  simp (disch := omega) only [go_sem, w1, w2, s3, s4, hwt, hst, hwf, hsf, hwh, hsh, simprocAttr, passK_shut CxP15, QK.use hS, passK_shut CxP37, QK.use hI]
  rw [loop_norm (l := [2, 3, 11, 12]) rfl]
  simp (disch := omega) only [go_sem, simprocAttr]
  refine pbr_step hW T S (j := 0) (by omega) (fun q e' => ?_) (fun q => ?_)
  · rw [q]
    simp (disch := omega) only [go_sem, simprocAttr, brkB]
  rw [q]
  refine pbr_step hW T S (j := 1) (by omega) (fun q e' => ?_) (fun q => ?_)
  · rw [q]
    simp (disch := omega) only [go_sem, simprocAttr, brkB]
  rw [q]
  refine pbr_step hW T S (j := 2) (by omega) (fun q e' => ?_) (fun q => ?_)
  · rw [q]
    simp (disch := omega) only [go_sem, simprocAttr, brkB]
  rw [q]
  refine pbr_step hW T S (j := 3) (by omega) (fun q e' => ?_) (fun q => ?_)
  · rw [q]
    simp (disch := omega) only [go_sem, simprocAttr, brkB]
  rw [q]
  rw [runK_loop]
  simp (disch := omega) only [go_sem, simprocAttr, brkB]
theorem rline_ev {ws ss : List A} {c h o s y : Int} {net : List Mg} {J : List (List A)} {W : Nat → Nat → Nat → Ln} {N : Nat → Nat → Rp} {D : Nat → Dr} (hW : WorldR ws c h o s y) (T : StateR ss net J W N D) (S : Shp c h o s y J W N net D) {i : Nat} (hi : i = 1 ∨ i = 2 ∨ i = 3 ∨ i = 4) {n : Nat} (hn : n < (5 / o + 1).toNat) : LineEv ws ss i n (lineB i (D n) (fun x => atL (W x) s y n) net n J.length) := by
  have I := T.inR hW S
  have h6 := S.six
  have hN := T.some
  unfold LineEv lineB
  rcases hi with rfl | rfl | rfl | rfl
  · exact rswmr_ev I (by omega)
  · exact rfresh_ev I T.homes (by omega)
  · exact rnoted_ev I T.homes (by omega) (S.right n hn)
  · exact rpaired_ev I T.nok (by omega) T.homes (by omega)
set_option maxHeartbeats 8000000 in
theorem rholds_ev {ws ss : List A} {c h o s y : Int} {net : List Mg} {J : List (List A)} {W : Nat → Nat → Nat → Ln} {N : Nat → Nat → Rp} {D : Nat → Dr} (hW : WorldR ws c h o s y) (T : StateR ss net J W N D) {i : Nat} (hi : i = 1 ∨ i = 2 ∨ i = 3 ∨ i = 4) : EvQ Cx 14 [.agg ws, .agg ss, i64 i] (bo (hB c h o s y J.length W N net D i)) := by
  have w1 := hW.len; have w2 := hW.one; have s3 := T.sys.len; have s4 := T.sys.one; have hwt : List.take 585 ws = ws := List.take_of_length_le (by omega); have hst : List.take 69 ss = ss := List.take_of_length_le (by omega); have hwf := hW.fz; have hsf := T.sys.fz; have hwh := hW.shut; have hsh := T.sys.shut
  have hS := rshaped_ev hW T
  unfold hB
  refine evQ_of CxB14 rfl (by simp [fn14]) ?_
  cases hs : rshapeB c h o s y J.length W N net D <;> rw [hs] at hS
  · simp (disch := omega) only [go_sem, w1, w2, s3, s4, hwt, hst, hwf, hsf, hwh, hsh, simprocAttr, passK_shut CxP16, QK.use hS]
  have S := shp_of hs
  have hL := S.lines
  rw [Bool.true_and]
  simp (disch := omega) only [go_sem, w1, w2, s3, s4, hwt, hst, hwf, hsf, hwh, hsh, simprocAttr, passK_shut CxP16, QK.use hS]
  rw [loop_norm (l := [2, 3, 4, 7]) rfl]
  simp (disch := omega) only [go_sem, simprocAttr]
  refine rholds_loop S.ok hW T.sys hi (B := fun n => lineB i (D n) (fun x => atL (W x) s y n) net n J.length) (fun n hn => rline_ev hW T S hi (by omega)) (5 / o + 1).toNat 0 (by omega) (fun q => ?_) (fun q => ?_)
  · rw [q]
    simp (disch := omega) only [go_sem, simprocAttr]
  · rw [q]
    simp (disch := omega) only [go_sem, simprocAttr]
set_option maxHeartbeats 8000000 in
theorem rbr_step {ws ss : List A} {c h o s y : Int} {net : List Mg} {J : List (List A)} {W : Nat → Nat → Nat → Ln} {N : Nat → Nat → Rp} {D : Nat → Dr} (hW : WorldR ws c h o s y) (T : StateR ss net J W N D) {j : Nat} (hj : j = 1 ∨ j = 2 ∨ j = 3 ∨ j = 4) {KK : List It} {Q : Ex → St → Prop}
    (hN : hB c h o s y J.length W N net D j = false → ∀ e', UnwK Cx .back KK ⟨(4, i8 ((j : Int) + 1)) :: e', [some ⟨44, ws, true⟩, some ⟨69, ss, true⟩]⟩ Q)
    (hT : hB c h o s y J.length W N net D j = true → RunK Cx (.code (.loop m18_l0) :: KK) ⟨[(2, .ptr 0 0), (3, .ptr 1 0), (5, i64 ((j : Int) + 1))], [some ⟨44, ws, true⟩, some ⟨69, ss, true⟩]⟩ Q) :
    RunK Cx (.code (.loop m18_l0) :: KK) ⟨[(2, .ptr 0 0), (3, .ptr 1 0), (5, i64 j)], [some ⟨44, ws, true⟩, some ⟨69, ss, true⟩]⟩ Q := by
  have w1 := hW.len; have w2 := hW.one; have s3 := T.sys.len; have s4 := T.sys.one; have hwt : List.take 585 ws = ws := List.take_of_length_le (by omega); have hst : List.take 69 ss = ss := List.take_of_length_le (by omega); have hwf := hW.fz; have hsf := T.sys.fz; have hwh := hW.shut; have hsh := T.sys.shut
  have hE := rholds_ev hW T hj
  rw [runK_loop]
  cases hb : hB c h o s y J.length W N net D j <;> rw [hb] at hE
  · have := hN hb
    simp (disch := omega) only [go_sem, w1, w2, s3, s4, hwt, hst, hwf, hsf, hwh, hsh, simprocAttr, passK_shut CxP14, QK.use hE]
    exact this _
  · simp (disch := omega) only [go_sem, w1, w2, s3, s4, hwt, hst, hwf, hsf, hwh, hsh, simprocAttr, passK_shut CxP14, QK.use hE]
    rw [loop_norm (l := [2, 3, 5]) rfl]
    simp (disch := omega) only [go_sem, simprocAttr]
    exact hT hb
set_option maxHeartbeats 8000000 in
theorem rbroken_ev {ws ss : List A} {c h o s y : Int} {net : List Mg} {J : List (List A)} {W : Nat → Nat → Nat → Ln} {N : Nat → Nat → Rp} {D : Nat → Dr} (hW : WorldR ws c h o s y) (T : StateR ss net J W N D) : EvQ Cx 18 [.agg ws, .agg ss] (i8 (brk c h o s y J.length W N net D)) := by
  have w1 := hW.len; have w2 := hW.one; have s3 := T.sys.len; have s4 := T.sys.one; have hwt : List.take 585 ws = ws := List.take_of_length_le (by omega); have hst : List.take 69 ss = ss := List.take_of_length_le (by omega); have hwf := hW.fz; have hsf := T.sys.fz; have hwh := hW.shut; have hsh := T.sys.shut
  have hS := rshaped_ev hW T
  refine evQ_of CxB18 rfl (by simp [fn18]) ?_
  unfold brk
  cases hs : rshapeB c h o s y J.length W N net D <;> rw [hs] at hS
  · simp (disch := omega) only [go_sem, w1, w2, s3, s4, hwt, hst, hwf, hsf, hwh, hsh, simprocAttr, passK_shut CxP16, QK.use hS, brkB]
  simp (disch := omega) only [go_sem, w1, w2, s3, s4, hwt, hst, hwf, hsf, hwh, hsh, simprocAttr, passK_shut CxP16, QK.use hS]
  rw [loop_norm (l := [2, 3, 5]) rfl]
  simp (disch := omega) only [go_sem, simprocAttr]
  refine rbr_step hW T (j := 1) (by omega) (fun q e' => ?_) (fun q => ?_)
  · rw [q]
    simp (disch := omega) only [go_sem, simprocAttr, brkB]
  rw [q]
  refine rbr_step hW T (j := 2) (by omega) (fun q e' => ?_) (fun q => ?_)
  · rw [q]
    simp (disch := omega) only [go_sem, simprocAttr, brkB]
  rw [q]
  refine rbr_step hW T (j := 3) (by omega) (fun q e' => ?_) (fun q => ?_)
  · rw [q]
    simp (disch := omega) only [go_sem, simprocAttr, brkB]
  rw [q]
  refine rbr_step hW T (j := 4) (by omega) (fun q e' => ?_) (fun q => ?_)
  · rw [q]
    simp (disch := omega) only [go_sem, simprocAttr, brkB]
  rw [q]
  rw [runK_loop]
  simp (disch := omega) only [go_sem, simprocAttr, brkB]
end Go.Proofs.YtnhknhniemfnjaaGreatDoor.Ev
