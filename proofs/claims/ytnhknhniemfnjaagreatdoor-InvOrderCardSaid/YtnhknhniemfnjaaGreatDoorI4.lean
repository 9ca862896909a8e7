/- The law InvOrder for what its row reads. -/
import Derived.Test.YtnhknhniemfnjaaGreatDoorFB
import Derived.Test.YtnhknhniemfnjaaGreatDoorM8
import Derived.Test.YtnhknhniemfnjaaGreatDoorI3
set_option linter.unusedSimpArgs false
set_option linter.unusedVariables false
namespace Go.Proofs.YtnhknhniemfnjaaGreatDoor
open Go Go.RowKit Go.Proofs.YtnhknhniemfnjaaGreatDoor.Ev
set_option maxRecDepth 100000
def u8L : Sh → Bool
  | .sl [.sc (.int .u8)] => true
  | .sl _ => false
  | _ => true
theorem u8L_of {e : List Sh} (h : u8L (.sl e) = true) : e = [.sc (.int .u8)] := by
  unfold u8L at h
  split at h
  · rename_i h'
    cases h'
    rfl
  · cases h
  · rename_i h1 h2
    exact absurd rfl (h2 e)
theorem world_u8 : worldSh.all u8L = true := by kernel_rfl
theorem eqL_i8 : ∀ l : List Int, eqL (l.map i8) (l.map i8) = true
  | [] => rfl
  | a :: l => by simp [eqL, eqA, eqV, i8, eqL_i8 l]
theorem bytes_open {a : A} (h : shFits (.sl [.sc (.int .u8)]) a) : ∃ l : List Int, a = .sl l.length (l.map i8) ∧ l.length ≤ 4611686018427387904 ∧ ∀ x ∈ l, 0 ≤ x ∧ x ≤ 255 := by
  obtain ⟨L, rfl, h3, h4⟩ := sh_sl h
  obtain ⟨l, hp, rfl⟩ := lift_list (p := fun x : Int => 0 ≤ x ∧ x ≤ 255) (f := fun x => [i8 x]) fun c hc => by
    obtain ⟨_, _, rfl, a0, k0⟩ := fitsA_cons (h4 c hc)
    obtain ⟨x, rfl, hx⟩ := sh_u8 a0
    obtain rfl := fitsA_nil k0
    exact ⟨x, hx, rfl⟩
  refine ⟨l, by rw [List.length_map, flat_i8], ?_, hp⟩
  simp only [List.length_map, reachBytes] at h3
  omega
theorem world_open2 {cs : List A} (h : FitsA worldSh cs) : cs.length = 585 ∧ eqL cs cs = true ∧ (∃ g : Int, cs[10]? = some (i64 g)) ∧ ∃ ini : List Int, ini.length ≤ 4611686018427387904 ∧ (∀ x ∈ ini, 0 ≤ x ∧ x ≤ 255) ∧ cs[2]? = some (.sl ini.length (ini.map i8)) := by
  obtain ⟨h1, h2, -⟩ := world_open h
  refine ⟨h1, eq_fits h fun i e zs n hi hz => ?_, h2, ?_⟩
  · obtain ⟨a, e1, e2⟩ := fitsA_get h i _ hi
    rw [hz] at e1
    obtain rfl := Option.some.inj e1
    obtain rfl := u8L_of (List.all_eq_true.1 world_u8 _ (List.mem_of_getElem? hi))
    obtain ⟨l, e3, -, -⟩ := bytes_open e2
    cases e3
    exact eqL_i8 l
  · obtain ⟨a, e1, e2⟩ := fitsA_get h 2 _ worldSh2
    obtain ⟨l, rfl, e4, e5⟩ := bytes_open e2
    exact ⟨l, e4, e5, e1⟩
namespace Ev
theorem byM_init {ini : List Int} (h : ∀ x ∈ ini, 0 ≤ x ∧ x ≤ 255) : ByM (initM ini) := fun x => by
  unfold initM
  rw [List.getD_eq_getElem?_getD]
  cases hx : ini[x.toNat]? with
  | none => decide
  | some y => exact h y (List.mem_of_getElem? hx)
/-- The program, the examples, Atomic and After known. -/
noncomputable def XO : FuncId → List A → Option A := XE CZ [8] (XE Cx [6, 9] fun _ _ => none)
theorem XO_ok : QOk Cx.T Tryz.prog XO := XE_ok CZ_ok rfl (XE_ok CxOk rfl qOk_none)
noncomputable def CO : Ctx := CA XO
theorem CO_B4 : CO.B 4 = some fn4 := CxB4
theorem CO_ok : CtxOk Tryz.prog CO := CA_ok XO_ok
theorem XO_at {f : FuncId} {l : List A} {r : A} (hf : f ∈ [6, 9]) (h0 : f ∉ [8]) (h : EvQ Cx f l r) : EvQ (CA XO) f l r := evQ_ext (by
  show XO f l = some r
  unfold XO
  rw [XE_miss h0]
  exact XE_hit hf h)
theorem InvOrder_ev {cs : List A} (h : FitsA worldSh cs) (l : List Pf) (hn : l.length ≤ 4611686018427387904) (hok : ∀ p ∈ l, p.Ok) {t : Int} (t0 : 0 ≤ t) (t1 : t ≤ 255) : EvQ CO 4 [.agg cs, .sl l.length (encL l), i8 t] (bo true) := by
  obtain ⟨hl, heq, ⟨g, hg⟩, ini, hin, hby, hi⟩ := world_open2 h
  obtain ⟨h1, h2, h3⟩ := fitsA_all h
  refine invOrder_ev hl h1 h3 h2 heq hg hin hi (byM_init hby) hok hn t0 t1 ⟨fun l => ?_, ?_, fun k x a b o => ?_, fun L hL hL1 => ?_, ?_⟩
  · unfold XO
    rw [XE_miss (by decide), XE_miss (by decide)]
  · exact evQ_ext (XE_hit (by simp) awake_ev)
  · exact XO_at (by simp) (by decide) (after_ev k x a b o)
  · exact XO_at (by simp) (by decide) (atomic_ev hl h1 hg hi hL (by omega))
  · exact XO_at (by simp) (by decide) (atomic_nil hl h1 hi)
end Ev
end Go.Proofs.YtnhknhniemfnjaaGreatDoor
