/- Functions without a body: what the evaluator takes them to give. -/
import Derived.Test.YtnhknhniemfnjaaGreatDoorK3
import Derived.Test.YtnhknhniemfnjaaGreatDoorChecked
import Derived.Lib.Bytealg
import Derived.Laws.StandIn
set_option linter.unusedSimpArgs false
set_option linter.unusedVariables false
namespace Go.Proofs.YtnhknhniemfnjaaGreatDoor.Ev
open Go Go.RowKit
def idxB (c : Nat) : List UInt8 → Int → Int
  | [], _ => -1
  | b :: l, i => bif Nat.beq b.toNat c then i else idxB c l (i + 1)
theorem indexByte_ge (c : UInt8) : ∀ l : List UInt8, -1 ≤ Lib.indexByte l c
  | [] => by simp [Lib.indexByte]
  | b :: l => by
    have := indexByte_ge c l
    unfold Lib.indexByte
    split
    · omega
    · split <;> omega
theorem idxB_eq (c : UInt8) : ∀ (l : List UInt8) (i : Int), idxB c.toNat l i = if Lib.indexByte l c = -1 then -1 else Lib.indexByte l c + i
  | [], i => by simp [idxB, Lib.indexByte]
  | b :: l, i => by
    have h0 := indexByte_ge c l
    unfold idxB Lib.indexByte
    rw [idxB_eq c l (i + 1)]
    by_cases hb : b = c
    · subst hb
      simp
    · have h1 : Nat.beq b.toNat c.toNat = false := by
        cases hh : Nat.beq b.toNat c.toNat with
        | false => rfl
        | true => exact absurd (UInt8.toNat_inj.1 (Nat.eq_of_beq_eq_true hh)) hb
      have h2 : (b == c) = false := by simpa using hb
      simp only [h1, h2, cond_false, Bool.false_eq_true, if_false]
      by_cases h3 : Lib.indexByte l c = -1
      · simp [h3]
      · have h4 : (Lib.indexByte l c == -1) = false := by simpa using h3
        simp only [h4, h3, Bool.false_eq_true, if_false]
        have h5 : ¬ Lib.indexByte l c + 1 = -1 := by omega
        rw [if_neg h5]
        omega
def xLib (f : FuncId) (zs : List A) : Option A :=
  bif Nat.beq f 218 then match zs with
    | [.v (.string s), .v (.int .u8 c)] => if 0 ≤ c ∧ c ≤ 255 then some (.v (.int .i64 (idxB c.toNat s.data.toList 0))) else none
    | _ => none
  else none
theorem xLib_ok {T : Tb} : QOk T Tryz.prog xLib := by
  intro f zs r h
  unfold xLib at h
  cases hb : Nat.beq f 218 with
  | false => simp [hb] at h
  | true =>
    obtain rfl := Nat.eq_of_beq_eq_true hb
    simp only [hb, cond_true] at h
    split at h
    · rename_i s c
      split at h
      · rename_i hc
        obtain rfl := Option.some.inj h
        left
        intro ρ own w ys hr
        rw [RL] at hr
        obtain ⟨y1, ys1, rfl, h1, h2⟩ := hr
        obtain ⟨y2, rfl, h3⟩ := h2.single
        rw [R] at h1 h3
        subst h1
        subst h3
        refine ⟨.int .i64 (idxB c.toNat s.data.toList 0), ?_, by rw [R]⟩
        have hcc : c.toNat.toUInt8.toNat = c.toNat := by
          have : c.toNat < 256 := by omega
          simp [Nat.toUInt8, UInt8.toNat_ofNat, Nat.mod_eq_of_lt this]
        rw [run_callFunc_indexByte Tryz.func218 (by kernel_rfl) (by kernel_rfl) (by kernel_rfl) (by rfl), Lib.run_indexByteString]
        rw [← hcc, idxB_eq]
        have hge := indexByte_ge c.toNat.toUInt8 s.data.toList
        simp only [Result.andThen_ok, Int.add_zero, hcc]
        congr 3
        split
        · rename_i h5
          exact h5
        · rfl
      · cases h
    · cases h
end Go.Proofs.YtnhknhniemfnjaaGreatDoor.Ev
namespace Go.Proofs.YtnhknhniemfnjaaGreatDoor.Ev
open Go Go.RowKit
attribute [go_sem] runK_nil runK_blk runK_lp unwK_nil unwK_blk unwK_code unwK_lp unwK_ret_blk runK_skip runK_exit runK_ret runK_seq runK_block runK_cond condK_known runK_reg runK_ops runK_again againAll againOp eqA eqL eqV Nat.beq_refl opsK_nil opsK_cons wantK_no wantK_yes wantK_free wants anyK_loud anyK_quiet anyK_call freeK_lit freeK_quiet freeK_call isLoud isLit litQ beq_self_eq_true undef beq_true beq_false Bool.false_beq Bool.true_beq heapK_some quietK_some lentK_some retK_go retK_back FinQ result resAll resOne calls callee opnd opnds opndO ofV look_cons look_nil keepE put argE quietOp loudOp loudOp.srcL quietOp.minA lendL holdR_shut holdR_pass holdR_norm nrm nrmL fz_v fz_agg fz_tup fz_clo fz_sl fz_fp fz_mf fz_mp fz_ptr fz_ref mapO_nil mapO_cons shut shut.shutL flat flat.flatL readL partA cellsA one ones binV eqOp nilEq sameA eqT eqFs eqN fillA partsA placesOf litCells zeros bnd bnds K.agg cond_true cond_false List.getElem?_cons_zero List.getElem?_cons_succ List.getElem?_nil List.getElem?_toArray List.length_cons List.length_nil List.drop_zero List.drop_succ_cons List.drop_nil List.take_succ_cons List.take_zero List.take_nil List.set_cons_zero List.set_cons_succ List.cons_append List.nil_append List.append_nil List.map_cons List.map_nil List.all_cons List.all_nil Option.bind_some Option.bind_none Option.map_some Option.map_none Bool.and_true Bool.true_and Bool.and_false Bool.false_and Bool.or_true Bool.true_or Bool.or_false Bool.false_or Bool.not_true Bool.not_false Array.toList List.isEmpty_nil List.isEmpty_cons List.isEmpty_toArray Option.some.injEq A.v.injEq A.agg.injEq Value.int.injEq Value.bool.injEq Nat.zero_add Nat.add_zero and_self and_true true_and eq_self Int.toNat_natCast Int.toNat_zero Int.toNat_one decide_true decide_false ite_yes ite_no dec_yes dec_no beq_yes beq_no bne_yes bne_no wrap_u8 wrap_u16 wrap_u64 wrap_i64 tdiv_pos tmod_pos
end Go.Proofs.YtnhknhniemfnjaaGreatDoor.Ev
namespace Go.Proofs.YtnhknhniemfnjaaGreatDoor.Ev
open Go Go.RowKit
set_option maxRecDepth 100000
def ty3 : Ty := ⟨(.int .i64), 1, 8, [(.int .i64 0)], true⟩
theorem tyOk3 : tyOf Tryz.prog 3 = some ty3 := by kernel_rfl
def ty4 : Ty := ⟨.bool, 1, 1, [(.bool false)], true⟩
theorem tyOk4 : tyOf Tryz.prog 4 = some ty4 := by kernel_rfl
def ty5 : Ty := ⟨(.int .u8), 1, 1, [(.int .u8 0)], true⟩
theorem tyOk5 : tyOf Tryz.prog 5 = some ty5 := by kernel_rfl
def ty9 : Ty := ⟨.str, 1, 16, [(.string ⟨#[]⟩)], true⟩
theorem tyOk9 : tyOf Tryz.prog 9 = some ty9 := by kernel_rfl
def ty21 : Ty := ⟨(.int .i32), 1, 4, [(.int .i32 0)], true⟩
theorem tyOk21 : tyOf Tryz.prog 21 = some ty21 := by kernel_rfl
def ty22 : Ty := ⟨(.slice 9), 1, 24, [(.slice none 0 0)], true⟩
theorem tyOk22 : tyOf Tryz.prog 22 = some ty22 := by kernel_rfl
def ty23 : Ty := ⟨(.slice 5), 1, 24, [(.slice none 0 0)], true⟩
theorem tyOk23 : tyOf Tryz.prog 23 = some ty23 := by kernel_rfl
def ty24 : Ty := ⟨(.slice 103), 1, 24, [(.slice none 0 0)], true⟩
theorem tyOk24 : tyOf Tryz.prog 24 = some ty24 := by kernel_rfl
def ty25 : Ty := ⟨(.slice 27), 1, 24, [(.slice none 0 0)], true⟩
theorem tyOk25 : tyOf Tryz.prog 25 = some ty25 := by kernel_rfl
def ty27 : Ty := ⟨(.struct [(5, 0, true), (5, 1, true), (5, 2, true), (5, 3, true), (25, 4, true)]), 5, 32, [(.int .u8 0), (.int .u8 0), (.int .u8 0), (.int .u8 0), (.slice none 0 0)], true⟩
theorem tyOk27 : tyOf Tryz.prog 27 = some ty27 := by kernel_rfl
def ty29 : Ty := ⟨(.struct [(9, 0, true), (22, 1, true), (23, 2, true), (24, 3, true), (5, 4, true), (27, 5, true)]), 10, 128, [(.string ⟨#[]⟩), (.slice none 0 0), (.slice none 0 0), (.slice none 0 0), (.int .u8 0), (.int .u8 0), (.int .u8 0), (.int .u8 0), (.int .u8 0), (.slice none 0 0)], true⟩
theorem tyOk29 : tyOf Tryz.prog 29 = some ty29 := by kernel_rfl
def ty31 : Ty := ⟨(.struct [(3, 0, true), (3, 1, true), (3, 2, true), (3, 3, true), (3, 4, true)]), 5, 40, [(.int .i64 0), (.int .i64 0), (.int .i64 0), (.int .i64 0), (.int .i64 0)], true⟩
theorem tyOk31 : tyOf Tryz.prog 31 = some ty31 := by kernel_rfl
def ty33 : Ty := ⟨(.struct [(5, 0, true), (5, 1, true), (5, 2, true), (3, 3, true), (4, 4, true)]), 5, 24, [(.int .u8 0), (.int .u8 0), (.int .u8 0), (.int .i64 0), (.bool false)], true⟩
theorem tyOk33 : tyOf Tryz.prog 33 = some ty33 := by kernel_rfl
def ty34 : Ty := ⟨(.int .u16), 1, 2, [(.int .u16 0)], true⟩
theorem tyOk34 : tyOf Tryz.prog 34 = some ty34 := by kernel_rfl
def ty36 : Ty := ⟨(.struct [(5, 0, true), (5, 1, true), (34, 2, true)]), 3, 4, [(.int .u8 0), (.int .u8 0), (.int .u16 0)], true⟩
theorem tyOk36 : tyOf Tryz.prog 36 = some ty36 := by kernel_rfl
def ty37 : Ty := ⟨(.array 14 36), 42, 56, (List.replicate 14 ([(.int .u8 0), (.int .u8 0), (.int .u16 0)] : List Value)).flatten, true⟩
theorem tyOk37 : tyOf Tryz.prog 37 = some ty37 := by kernel_rfl
def ty38 : Ty := ⟨(.array 12 37), 504, 672, (List.replicate 168 ([(.int .u8 0), (.int .u8 0), (.int .u16 0)] : List Value)).flatten, true⟩
theorem tyOk38 : tyOf Tryz.prog 38 = some ty38 := by kernel_rfl
def ty39 : Ty := ⟨(.array 5 36), 15, 20, [(.int .u8 0), (.int .u8 0), (.int .u16 0), (.int .u8 0), (.int .u8 0), (.int .u16 0), (.int .u8 0), (.int .u8 0), (.int .u16 0), (.int .u8 0), (.int .u8 0), (.int .u16 0), (.int .u8 0), (.int .u8 0), (.int .u16 0)], true⟩
theorem tyOk39 : tyOf Tryz.prog 39 = some ty39 := by kernel_rfl
def ty40 : Ty := ⟨(.array 4 39), 60, 80, (List.replicate 20 ([(.int .u8 0), (.int .u8 0), (.int .u16 0)] : List Value)).flatten, true⟩
theorem tyOk40 : tyOf Tryz.prog 40 = some ty40 := by kernel_rfl
def ty42 : Ty := ⟨(.struct [(9, 0, true), (38, 1, true), (40, 505, true)]), 565, 768, [(.string ⟨#[]⟩)] ++ (List.replicate 188 ([(.int .u8 0), (.int .u8 0), (.int .u16 0)] : List Value)).flatten, true⟩
theorem tyOk42 : tyOf Tryz.prog 42 = some ty42 := by kernel_rfl
def ty44 : Ty := ⟨(.struct [(29, 0, true), (31, 10, true), (33, 15, true), (42, 20, true)]), 585, 960, [(.string ⟨#[]⟩), (.slice none 0 0), (.slice none 0 0), (.slice none 0 0), (.int .u8 0), (.int .u8 0), (.int .u8 0), (.int .u8 0), (.int .u8 0), (.slice none 0 0), (.int .i64 0), (.int .i64 0), (.int .i64 0), (.int .i64 0), (.int .i64 0), (.int .u8 0), (.int .u8 0), (.int .u8 0), (.int .i64 0), (.bool false), (.string ⟨#[]⟩)] ++ (List.replicate 188 ([(.int .u8 0), (.int .u8 0), (.int .u16 0)] : List Value)).flatten, true⟩
theorem tyOk44 : tyOf Tryz.prog 44 = some ty44 := by kernel_rfl
def ty45 : Ty := ⟨(.slice 52), 1, 24, [(.slice none 0 0)], true⟩
theorem tyOk45 : tyOf Tryz.prog 45 = some ty45 := by kernel_rfl
def ty47 : Ty := ⟨.func, 1, 8, [.nilFunc], true⟩
theorem tyOk47 : tyOf Tryz.prog 47 = some ty47 := by kernel_rfl
def ty48 : Ty := ⟨(.array 6 5), 6, 6, [(.int .u8 0), (.int .u8 0), (.int .u8 0), (.int .u8 0), (.int .u8 0), (.int .u8 0)], true⟩
theorem tyOk48 : tyOf Tryz.prog 48 = some ty48 := by kernel_rfl
def ty50 : Ty := ⟨(.struct [(5, 0, true), (5, 1, true), (5, 2, true), (5, 3, true)]), 4, 4, [(.int .u8 0), (.int .u8 0), (.int .u8 0), (.int .u8 0)], true⟩
theorem tyOk50 : tyOf Tryz.prog 50 = some ty50 := by kernel_rfl
def ty52 : Ty := ⟨(.struct [(5, 0, true), (50, 1, true), (5, 5, true), (5, 6, true)]), 7, 7, [(.int .u8 0), (.int .u8 0), (.int .u8 0), (.int .u8 0), (.int .u8 0), (.int .u8 0), (.int .u8 0)], true⟩
theorem tyOk52 : tyOf Tryz.prog 52 = some ty52 := by kernel_rfl
def ty56 : Ty := ⟨(.slice 155), 1, 24, [(.slice none 0 0)], true⟩
theorem tyOk56 : tyOf Tryz.prog 56 = some ty56 := by kernel_rfl
def ty57 : Ty := ⟨(.slice 90), 1, 24, [(.slice none 0 0)], true⟩
theorem tyOk57 : tyOf Tryz.prog 57 = some ty57 := by kernel_rfl
def ty58 : Ty := ⟨(.int .u64), 1, 8, [(.int .u64 0)], true⟩
theorem tyOk58 : tyOf Tryz.prog 58 = some ty58 := by kernel_rfl
def ty59 : Ty := ⟨(.int .u64), 1, 8, [(.int .u64 0)], true⟩
theorem tyOk59 : tyOf Tryz.prog 59 = some ty59 := by kernel_rfl
def ty61 : Ty := ⟨(.struct [(5, 0, true), (59, 1, true), (4, 2, true)]), 3, 24, [(.int .u8 0), (.int .u64 0), (.bool false)], true⟩
theorem tyOk61 : tyOf Tryz.prog 61 = some ty61 := by kernel_rfl
def ty62 : Ty := ⟨(.array 4 5), 4, 4, [(.int .u8 0), (.int .u8 0), (.int .u8 0), (.int .u8 0)], true⟩
theorem tyOk62 : tyOf Tryz.prog 62 = some ty62 := by kernel_rfl
def ty63 : Ty := ⟨(.array 4 5), 4, 4, [(.int .u8 0), (.int .u8 0), (.int .u8 0), (.int .u8 0)], true⟩
theorem tyOk63 : tyOf Tryz.prog 63 = some ty63 := by kernel_rfl
def ty65 : Ty := ⟨(.struct [(5, 0, true), (5, 1, true), (61, 2, true), (5, 5, true), (5, 6, true), (63, 7, true)]), 11, 40, [(.int .u8 0), (.int .u8 0), (.int .u8 0), (.int .u64 0), (.bool false), (.int .u8 0), (.int .u8 0), (.int .u8 0), (.int .u8 0), (.int .u8 0), (.int .u8 0)], true⟩
theorem tyOk65 : tyOf Tryz.prog 65 = some ty65 := by kernel_rfl
def ty66 : Ty := ⟨(.array 6 65), 66, 240, [(.int .u8 0), (.int .u8 0), (.int .u8 0), (.int .u64 0), (.bool false), (.int .u8 0), (.int .u8 0), (.int .u8 0), (.int .u8 0), (.int .u8 0), (.int .u8 0), (.int .u8 0), (.int .u8 0), (.int .u8 0), (.int .u64 0), (.bool false), (.int .u8 0), (.int .u8 0), (.int .u8 0), (.int .u8 0), (.int .u8 0), (.int .u8 0), (.int .u8 0), (.int .u8 0), (.int .u8 0), (.int .u64 0), (.bool false), (.int .u8 0), (.int .u8 0), (.int .u8 0), (.int .u8 0), (.int .u8 0), (.int .u8 0), (.int .u8 0), (.int .u8 0), (.int .u8 0), (.int .u64 0), (.bool false), (.int .u8 0), (.int .u8 0), (.int .u8 0), (.int .u8 0), (.int .u8 0), (.int .u8 0), (.int .u8 0), (.int .u8 0), (.int .u8 0), (.int .u64 0), (.bool false), (.int .u8 0), (.int .u8 0), (.int .u8 0), (.int .u8 0), (.int .u8 0), (.int .u8 0), (.int .u8 0), (.int .u8 0), (.int .u8 0), (.int .u64 0), (.bool false)] ++ (List.replicate 6 ([(.int .u8 0)] : List Value)).flatten, true⟩
theorem tyOk66 : tyOf Tryz.prog 66 = some ty66 := by kernel_rfl
def ty67 : Ty := ⟨(.slice 77), 1, 24, [(.slice none 0 0)], true⟩
theorem tyOk67 : tyOf Tryz.prog 67 = some ty67 := by kernel_rfl
def ty69 : Ty := ⟨(.struct [(56, 0, true), (57, 1, true), (66, 2, true), (67, 68, true)]), 69, 312, [(.slice none 0 0), (.slice none 0 0), (.int .u8 0), (.int .u8 0), (.int .u8 0), (.int .u64 0), (.bool false), (.int .u8 0), (.int .u8 0), (.int .u8 0), (.int .u8 0), (.int .u8 0), (.int .u8 0), (.int .u8 0), (.int .u8 0), (.int .u8 0), (.int .u64 0), (.bool false), (.int .u8 0), (.int .u8 0), (.int .u8 0), (.int .u8 0), (.int .u8 0), (.int .u8 0), (.int .u8 0), (.int .u8 0), (.int .u8 0), (.int .u64 0), (.bool false), (.int .u8 0), (.int .u8 0), (.int .u8 0), (.int .u8 0), (.int .u8 0), (.int .u8 0), (.int .u8 0), (.int .u8 0), (.int .u8 0), (.int .u64 0), (.bool false), (.int .u8 0), (.int .u8 0), (.int .u8 0), (.int .u8 0), (.int .u8 0), (.int .u8 0), (.int .u8 0), (.int .u8 0), (.int .u8 0), (.int .u64 0), (.bool false), (.int .u8 0), (.int .u8 0), (.int .u8 0), (.int .u8 0), (.int .u8 0), (.int .u8 0), (.int .u8 0), (.int .u8 0), (.int .u8 0), (.int .u64 0), (.bool false), (.int .u8 0), (.int .u8 0), (.int .u8 0), (.int .u8 0), (.int .u8 0), (.int .u8 0), (.slice none 0 0)], true⟩
theorem tyOk69 : tyOf Tryz.prog 69 = some ty69 := by kernel_rfl
def ty70 : Ty := ⟨.func, 1, 8, [.nilFunc], true⟩
theorem tyOk70 : tyOf Tryz.prog 70 = some ty70 := by kernel_rfl
def ty71 : Ty := ⟨(.slice 70), 1, 24, [(.slice none 0 0)], true⟩
theorem tyOk71 : tyOf Tryz.prog 71 = some ty71 := by kernel_rfl
def ty77 : Ty := ⟨(.struct [(5, 0, true), (5, 1, true), (5, 2, true), (5, 3, true), (5, 4, true), (5, 5, true), (4, 6, true), (63, 7, true)]), 11, 11, [(.int .u8 0), (.int .u8 0), (.int .u8 0), (.int .u8 0), (.int .u8 0), (.int .u8 0), (.bool false), (.int .u8 0), (.int .u8 0), (.int .u8 0), (.int .u8 0)], true⟩
theorem tyOk77 : tyOf Tryz.prog 77 = some ty77 := by kernel_rfl
def ty81 : Ty := ⟨(.int .i8), 1, 1, [(.int .i8 0)], true⟩
theorem tyOk81 : tyOf Tryz.prog 81 = some ty81 := by kernel_rfl
def ty83 : Ty := ⟨(.struct [(5, 0, true), (5, 1, true), (81, 2, true), (4, 3, true), (63, 4, true)]), 8, 8, [(.int .u8 0), (.int .u8 0), (.int .i8 0), (.bool false), (.int .u8 0), (.int .u8 0), (.int .u8 0), (.int .u8 0)], true⟩
theorem tyOk83 : tyOf Tryz.prog 83 = some ty83 := by kernel_rfl
def ty84 : Ty := ⟨(.array 4 83), 32, 32, [(.int .u8 0), (.int .u8 0), (.int .i8 0), (.bool false), (.int .u8 0), (.int .u8 0), (.int .u8 0), (.int .u8 0), (.int .u8 0), (.int .u8 0), (.int .i8 0), (.bool false), (.int .u8 0), (.int .u8 0), (.int .u8 0), (.int .u8 0), (.int .u8 0), (.int .u8 0), (.int .i8 0), (.bool false), (.int .u8 0), (.int .u8 0), (.int .u8 0), (.int .u8 0), (.int .u8 0), (.int .u8 0), (.int .i8 0), (.bool false)] ++ (List.replicate 4 ([(.int .u8 0)] : List Value)).flatten, true⟩
theorem tyOk84 : tyOf Tryz.prog 84 = some ty84 := by kernel_rfl
def ty85 : Ty := ⟨(.array 4 84), 128, 128, [(.int .u8 0), (.int .u8 0), (.int .i8 0), (.bool false), (.int .u8 0), (.int .u8 0), (.int .u8 0), (.int .u8 0), (.int .u8 0), (.int .u8 0), (.int .i8 0), (.bool false), (.int .u8 0), (.int .u8 0), (.int .u8 0), (.int .u8 0), (.int .u8 0), (.int .u8 0), (.int .i8 0), (.bool false), (.int .u8 0), (.int .u8 0), (.int .u8 0), (.int .u8 0), (.int .u8 0), (.int .u8 0), (.int .i8 0), (.bool false), (.int .u8 0), (.int .u8 0), (.int .u8 0), (.int .u8 0), (.int .u8 0), (.int .u8 0), (.int .i8 0), (.bool false), (.int .u8 0), (.int .u8 0), (.int .u8 0), (.int .u8 0), (.int .u8 0), (.int .u8 0), (.int .i8 0), (.bool false), (.int .u8 0), (.int .u8 0), (.int .u8 0), (.int .u8 0), (.int .u8 0), (.int .u8 0), (.int .i8 0), (.bool false), (.int .u8 0), (.int .u8 0), (.int .u8 0), (.int .u8 0), (.int .u8 0), (.int .u8 0), (.int .i8 0), (.bool false), (.int .u8 0), (.int .u8 0), (.int .u8 0), (.int .u8 0), (.int .u8 0), (.int .u8 0), (.int .i8 0), (.bool false), (.int .u8 0), (.int .u8 0), (.int .u8 0), (.int .u8 0), (.int .u8 0), (.int .u8 0), (.int .i8 0), (.bool false), (.int .u8 0), (.int .u8 0), (.int .u8 0), (.int .u8 0), (.int .u8 0), (.int .u8 0), (.int .i8 0), (.bool false), (.int .u8 0), (.int .u8 0), (.int .u8 0), (.int .u8 0), (.int .u8 0), (.int .u8 0), (.int .i8 0), (.bool false), (.int .u8 0), (.int .u8 0), (.int .u8 0), (.int .u8 0), (.int .u8 0), (.int .u8 0), (.int .i8 0), (.bool false), (.int .u8 0), (.int .u8 0), (.int .u8 0), (.int .u8 0), (.int .u8 0), (.int .u8 0), (.int .i8 0), (.bool false), (.int .u8 0), (.int .u8 0), (.int .u8 0), (.int .u8 0), (.int .u8 0), (.int .u8 0), (.int .i8 0), (.bool false), (.int .u8 0), (.int .u8 0), (.int .u8 0), (.int .u8 0), (.int .u8 0), (.int .u8 0), (.int .i8 0), (.bool false)] ++ (List.replicate 4 ([(.int .u8 0)] : List Value)).flatten, true⟩
theorem tyOk85 : tyOf Tryz.prog 85 = some ty85 := by kernel_rfl
def ty87 : Ty := ⟨(.struct [(5, 0, true), (3, 1, true), (62, 2, true), (5, 6, true)]), 7, 24, [(.int .u8 0), (.int .i64 0), (.int .u8 0), (.int .u8 0), (.int .u8 0), (.int .u8 0), (.int .u8 0)], true⟩
theorem tyOk87 : tyOf Tryz.prog 87 = some ty87 := by kernel_rfl
def ty88 : Ty := ⟨(.array 4 87), 28, 96, [(.int .u8 0), (.int .i64 0), (.int .u8 0), (.int .u8 0), (.int .u8 0), (.int .u8 0), (.int .u8 0), (.int .u8 0), (.int .i64 0), (.int .u8 0), (.int .u8 0), (.int .u8 0), (.int .u8 0), (.int .u8 0), (.int .u8 0), (.int .i64 0), (.int .u8 0), (.int .u8 0), (.int .u8 0), (.int .u8 0), (.int .u8 0), (.int .u8 0), (.int .i64 0), (.int .u8 0), (.int .u8 0), (.int .u8 0), (.int .u8 0), (.int .u8 0)], true⟩
theorem tyOk88 : tyOf Tryz.prog 88 = some ty88 := by kernel_rfl
def ty90 : Ty := ⟨(.struct [(85, 0, true), (88, 128, true), (50, 156, true)]), 160, 232, [(.int .u8 0), (.int .u8 0), (.int .i8 0), (.bool false), (.int .u8 0), (.int .u8 0), (.int .u8 0), (.int .u8 0), (.int .u8 0), (.int .u8 0), (.int .i8 0), (.bool false), (.int .u8 0), (.int .u8 0), (.int .u8 0), (.int .u8 0), (.int .u8 0), (.int .u8 0), (.int .i8 0), (.bool false), (.int .u8 0), (.int .u8 0), (.int .u8 0), (.int .u8 0), (.int .u8 0), (.int .u8 0), (.int .i8 0), (.bool false), (.int .u8 0), (.int .u8 0), (.int .u8 0), (.int .u8 0), (.int .u8 0), (.int .u8 0), (.int .i8 0), (.bool false), (.int .u8 0), (.int .u8 0), (.int .u8 0), (.int .u8 0), (.int .u8 0), (.int .u8 0), (.int .i8 0), (.bool false), (.int .u8 0), (.int .u8 0), (.int .u8 0), (.int .u8 0), (.int .u8 0), (.int .u8 0), (.int .i8 0), (.bool false), (.int .u8 0), (.int .u8 0), (.int .u8 0), (.int .u8 0), (.int .u8 0), (.int .u8 0), (.int .i8 0), (.bool false), (.int .u8 0), (.int .u8 0), (.int .u8 0), (.int .u8 0), (.int .u8 0), (.int .u8 0), (.int .i8 0), (.bool false), (.int .u8 0), (.int .u8 0), (.int .u8 0), (.int .u8 0), (.int .u8 0), (.int .u8 0), (.int .i8 0), (.bool false), (.int .u8 0), (.int .u8 0), (.int .u8 0), (.int .u8 0), (.int .u8 0), (.int .u8 0), (.int .i8 0), (.bool false), (.int .u8 0), (.int .u8 0), (.int .u8 0), (.int .u8 0), (.int .u8 0), (.int .u8 0), (.int .i8 0), (.bool false), (.int .u8 0), (.int .u8 0), (.int .u8 0), (.int .u8 0), (.int .u8 0), (.int .u8 0), (.int .i8 0), (.bool false), (.int .u8 0), (.int .u8 0), (.int .u8 0), (.int .u8 0), (.int .u8 0), (.int .u8 0), (.int .i8 0), (.bool false), (.int .u8 0), (.int .u8 0), (.int .u8 0), (.int .u8 0), (.int .u8 0), (.int .u8 0), (.int .i8 0), (.bool false), (.int .u8 0), (.int .u8 0), (.int .u8 0), (.int .u8 0), (.int .u8 0), (.int .u8 0), (.int .i8 0), (.bool false), (.int .u8 0), (.int .u8 0), (.int .u8 0), (.int .u8 0), (.int .u8 0), (.int .i64 0), (.int .u8 0), (.int .u8 0), (.int .u8 0), (.int .u8 0), (.int .u8 0), (.int .u8 0), (.int .i64 0), (.int .u8 0), (.int .u8 0), (.int .u8 0), (.int .u8 0), (.int .u8 0), (.int .u8 0), (.int .i64 0), (.int .u8 0), (.int .u8 0), (.int .u8 0), (.int .u8 0), (.int .u8 0), (.int .u8 0), (.int .i64 0)] ++ (List.replicate 9 ([(.int .u8 0)] : List Value)).flatten, true⟩
theorem tyOk90 : tyOf Tryz.prog 90 = some ty90 := by kernel_rfl
def ty95 : Ty := ⟨.func, 1, 8, [.nilFunc], true⟩
theorem tyOk95 : tyOf Tryz.prog 95 = some ty95 := by kernel_rfl
def ty97 : Ty := ⟨(.struct [(95, 0, true)]), 1, 8, [.nilFunc], true⟩
theorem tyOk97 : tyOf Tryz.prog 97 = some ty97 := by kernel_rfl
def ty98 : Ty := ⟨(.array 4 97), 4, 32, [.nilFunc, .nilFunc, .nilFunc, .nilFunc], true⟩
theorem tyOk98 : tyOf Tryz.prog 98 = some ty98 := by kernel_rfl
def ty100 : Ty := ⟨(.int .i64), 1, 8, [(.int .i64 0)], true⟩
theorem tyOk100 : tyOf Tryz.prog 100 = some ty100 := by kernel_rfl
def ty103 : Ty := ⟨(.slice 280), 1, 24, [(.slice none 0 0)], true⟩
theorem tyOk103 : tyOf Tryz.prog 103 = some ty103 := by kernel_rfl
def ty106 : Ty := ⟨(.slice 83), 1, 24, [(.slice none 0 0)], true⟩
theorem tyOk106 : tyOf Tryz.prog 106 = some ty106 := by kernel_rfl
def ty108 : Ty := ⟨(.struct [(31, 0, true), (5, 5, true), (65, 6, true), (106, 17, true), (67, 18, true)]), 19, 136, [(.int .i64 0), (.int .i64 0), (.int .i64 0), (.int .i64 0), (.int .i64 0), (.int .u8 0), (.int .u8 0), (.int .u8 0), (.int .u8 0), (.int .u64 0), (.bool false), (.int .u8 0), (.int .u8 0), (.int .u8 0), (.int .u8 0), (.int .u8 0), (.int .u8 0), (.slice none 0 0), (.slice none 0 0)], true⟩
theorem tyOk108 : tyOf Tryz.prog 108 = some ty108 := by kernel_rfl
def ty111 : Ty := ⟨(.ptr 108), 1, 8, [(.pointer none)], true⟩
theorem tyOk111 : tyOf Tryz.prog 111 = some ty111 := by kernel_rfl
def ty120 : Ty := ⟨(.array 5 3), 5, 40, [(.int .i64 0), (.int .i64 0), (.int .i64 0), (.int .i64 0), (.int .i64 0)], true⟩
theorem tyOk120 : tyOf Tryz.prog 120 = some ty120 := by kernel_rfl
def ty122 : Ty := ⟨(.struct [(31, 0, true)]), 5, 40, [(.int .i64 0), (.int .i64 0), (.int .i64 0), (.int .i64 0), (.int .i64 0)], true⟩
theorem tyOk122 : tyOf Tryz.prog 122 = some ty122 := by kernel_rfl
def ty124 : Ty := ⟨(.array 13 5), 13, 13, [(.int .u8 0), (.int .u8 0), (.int .u8 0), (.int .u8 0), (.int .u8 0), (.int .u8 0), (.int .u8 0), (.int .u8 0), (.int .u8 0), (.int .u8 0), (.int .u8 0), (.int .u8 0), (.int .u8 0)], true⟩
theorem tyOk124 : tyOf Tryz.prog 124 = some ty124 := by kernel_rfl
def ty126 : Ty := ⟨(.struct [(77, 0, true), (31, 11, true), (5, 16, true)]), 17, 64, [(.int .u8 0), (.int .u8 0), (.int .u8 0), (.int .u8 0), (.int .u8 0), (.int .u8 0), (.bool false), (.int .u8 0), (.int .u8 0), (.int .u8 0), (.int .u8 0), (.int .i64 0), (.int .i64 0), (.int .i64 0), (.int .i64 0), (.int .i64 0), (.int .u8 0)], true⟩
theorem tyOk126 : tyOf Tryz.prog 126 = some ty126 := by kernel_rfl
def ty127 : Ty := ⟨(.struct [(31, 0, true)]), 5, 40, [(.int .i64 0), (.int .i64 0), (.int .i64 0), (.int .i64 0), (.int .i64 0)], true⟩
theorem tyOk127 : tyOf Tryz.prog 127 = some ty127 := by kernel_rfl
def ty140 : Ty := ⟨(.int .u8), 1, 1, [(.int .u8 0)], true⟩
theorem tyOk140 : tyOf Tryz.prog 140 = some ty140 := by kernel_rfl
def ty142 : Ty := ⟨(.struct [(140, 0, true), (42, 1, true)]), 566, 776, [(.int .u8 0), (.string ⟨#[]⟩)] ++ (List.replicate 188 ([(.int .u8 0), (.int .u8 0), (.int .u16 0)] : List Value)).flatten, true⟩
theorem tyOk142 : tyOf Tryz.prog 142 = some ty142 := by kernel_rfl
def ty148 : Ty := ⟨(.struct [(4, 0, true), (5, 1, true), (5, 2, true)]), 3, 3, [(.bool false), (.int .u8 0), (.int .u8 0)], true⟩
theorem tyOk148 : tyOf Tryz.prog 148 = some ty148 := by kernel_rfl
def ty150 : Ty := ⟨.func, 1, 8, [.nilFunc], true⟩
theorem tyOk150 : tyOf Tryz.prog 150 = some ty150 := by kernel_rfl
def ty152 : Ty := ⟨(.array 8 5), 8, 8, [(.int .u8 0), (.int .u8 0), (.int .u8 0), (.int .u8 0), (.int .u8 0), (.int .u8 0), (.int .u8 0), (.int .u8 0)], true⟩
theorem tyOk152 : tyOf Tryz.prog 152 = some ty152 := by kernel_rfl
def ty153 : Ty := ⟨(.slice 345), 1, 24, [(.slice none 0 0)], true⟩
theorem tyOk153 : tyOf Tryz.prog 153 = some ty153 := by kernel_rfl
def ty155 : Ty := ⟨(.struct [(5, 0, true), (152, 1, true), (153, 9, true), (4, 10, true), (4, 11, true)]), 12, 48, [(.int .u8 0), (.int .u8 0), (.int .u8 0), (.int .u8 0), (.int .u8 0), (.int .u8 0), (.int .u8 0), (.int .u8 0), (.int .u8 0), (.slice none 0 0), (.bool false), (.bool false)], true⟩
theorem tyOk155 : tyOf Tryz.prog 155 = some ty155 := by kernel_rfl
def ty164 : Ty := ⟨.func, 1, 8, [.nilFunc], true⟩
theorem tyOk164 : tyOf Tryz.prog 164 = some ty164 := by kernel_rfl
def ty168 : Ty := ⟨(.slice 63), 1, 24, [(.slice none 0 0)], true⟩
theorem tyOk168 : tyOf Tryz.prog 168 = some ty168 := by kernel_rfl
def ty170 : Ty := ⟨(.map 9 203), 1, 8, [(.map none)], true⟩
theorem tyOk170 : tyOf Tryz.prog 170 = some ty170 := by kernel_rfl
def ty177 : Ty := ⟨(.ptr 42), 1, 8, [(.pointer none)], true⟩
theorem tyOk177 : tyOf Tryz.prog 177 = some ty177 := by kernel_rfl
def ty178 : Ty := ⟨(.map 5 9), 1, 8, [(.map none)], true⟩
theorem tyOk178 : tyOf Tryz.prog 178 = some ty178 := by kernel_rfl
def ty181 : Ty := ⟨(.slice 148), 1, 24, [(.slice none 0 0)], true⟩
theorem tyOk181 : tyOf Tryz.prog 181 = some ty181 := by kernel_rfl
def ty194 : Ty := ⟨(.ptr 90), 1, 8, [(.pointer none)], true⟩
theorem tyOk194 : tyOf Tryz.prog 194 = some ty194 := by kernel_rfl
def ty200 : Ty := ⟨.func, 1, 8, [.nilFunc], true⟩
theorem tyOk200 : tyOf Tryz.prog 200 = some ty200 := by kernel_rfl
def ty203 : Ty := ⟨.func, 1, 8, [.nilFunc], true⟩
theorem tyOk203 : tyOf Tryz.prog 203 = some ty203 := by kernel_rfl
def ty204 : Ty := ⟨(.int .i64), 1, 8, [(.int .i64 0)], true⟩
theorem tyOk204 : tyOf Tryz.prog 204 = some ty204 := by kernel_rfl
def ty206 : Ty := ⟨(.struct [(9, 0, true), (204, 1, true), (204, 2, true), (204, 3, true)]), 4, 40, [(.string ⟨#[]⟩), (.int .i64 0), (.int .i64 0), (.int .i64 0)], true⟩
theorem tyOk206 : tyOf Tryz.prog 206 = some ty206 := by kernel_rfl
def ty207 : Ty := ⟨(.ptr 211), 1, 8, [(.pointer none)], true⟩
theorem tyOk207 : tyOf Tryz.prog 207 = some ty207 := by kernel_rfl
def ty209 : Ty := ⟨(.struct [(22, 0, true)]), 1, 24, [(.slice none 0 0)], true⟩
theorem tyOk209 : tyOf Tryz.prog 209 = some ty209 := by kernel_rfl
def ty211 : Ty := ⟨(.struct [(209, 0, true)]), 1, 24, [(.slice none 0 0)], true⟩
theorem tyOk211 : tyOf Tryz.prog 211 = some ty211 := by kernel_rfl
def ty216 : Ty := ⟨.func, 1, 8, [.nilFunc], true⟩
theorem tyOk216 : tyOf Tryz.prog 216 = some ty216 := by kernel_rfl
def ty217 : Ty := ⟨.func, 1, 8, [.nilFunc], true⟩
theorem tyOk217 : tyOf Tryz.prog 217 = some ty217 := by kernel_rfl
def ty225 : Ty := ⟨(.struct [(206, 0, true), (3, 4, true), (3, 5, true)]), 6, 56, [(.string ⟨#[]⟩), (.int .i64 0), (.int .i64 0), (.int .i64 0), (.int .i64 0), (.int .i64 0)], true⟩
theorem tyOk225 : tyOf Tryz.prog 225 = some ty225 := by kernel_rfl
def ty230 : Ty := ⟨(.ptr 36), 1, 8, [(.pointer none)], true⟩
theorem tyOk230 : tyOf Tryz.prog 230 = some ty230 := by kernel_rfl
def ty235 : Ty := ⟨(.slice 239), 1, 24, [(.slice none 0 0)], true⟩
theorem tyOk235 : tyOf Tryz.prog 235 = some ty235 := by kernel_rfl
def ty237 : Ty := ⟨(.ptr 29), 1, 8, [(.pointer none)], true⟩
theorem tyOk237 : tyOf Tryz.prog 237 = some ty237 := by kernel_rfl
def ty239 : Ty := ⟨(.struct [(100, 0, true), (47, 1, true)]), 2, 16, [(.int .i64 0), .nilFunc], true⟩
theorem tyOk239 : tyOf Tryz.prog 239 = some ty239 := by kernel_rfl
def ty249 : Ty := ⟨(.ptr 209), 1, 8, [(.pointer none)], true⟩
theorem tyOk249 : tyOf Tryz.prog 249 = some ty249 := by kernel_rfl
def ty252 : Ty := ⟨(.slice 254), 1, 24, [(.slice none 0 0)], true⟩
theorem tyOk252 : tyOf Tryz.prog 252 = some ty252 := by kernel_rfl
def ty254 : Ty := ⟨(.struct [(3, 0, true), (3, 1, true)]), 2, 16, [(.int .i64 0), (.int .i64 0)], true⟩
theorem tyOk254 : tyOf Tryz.prog 254 = some ty254 := by kernel_rfl
def ty257 : Ty := ⟨.func, 1, 8, [.nilFunc], true⟩
theorem tyOk257 : tyOf Tryz.prog 257 = some ty257 := by kernel_rfl
def ty258 : Ty := ⟨.func, 1, 8, [.nilFunc], true⟩
theorem tyOk258 : tyOf Tryz.prog 258 = some ty258 := by kernel_rfl
def ty264 : Ty := ⟨(.array 64 5), 64, 64, (List.replicate 64 ([(.int .u8 0)] : List Value)).flatten, true⟩
theorem tyOk264 : tyOf Tryz.prog 264 = some ty264 := by kernel_rfl
def ty265 : Ty := ⟨(.array 15 9), 15, 240, [(.string ⟨#[]⟩), (.string ⟨#[]⟩), (.string ⟨#[]⟩), (.string ⟨#[]⟩), (.string ⟨#[]⟩), (.string ⟨#[]⟩), (.string ⟨#[]⟩), (.string ⟨#[]⟩), (.string ⟨#[]⟩), (.string ⟨#[]⟩), (.string ⟨#[]⟩), (.string ⟨#[]⟩), (.string ⟨#[]⟩), (.string ⟨#[]⟩), (.string ⟨#[]⟩)], true⟩
theorem tyOk265 : tyOf Tryz.prog 265 = some ty265 := by kernel_rfl
def ty266 : Ty := ⟨(.array 7 265), 105, 1680, (List.replicate 105 ([(.string ⟨#[]⟩)] : List Value)).flatten, true⟩
theorem tyOk266 : tyOf Tryz.prog 266 = some ty266 := by kernel_rfl
def ty270 : Ty := ⟨(.slice 275), 1, 24, [(.slice none 0 0)], true⟩
theorem tyOk270 : tyOf Tryz.prog 270 = some ty270 := by kernel_rfl
def ty273 : Ty := ⟨(.int .u8), 1, 1, [(.int .u8 0)], true⟩
theorem tyOk273 : tyOf Tryz.prog 273 = some ty273 := by kernel_rfl
def ty275 : Ty := ⟨(.struct [(273, 0, true), (9, 1, true), (3, 2, true)]), 3, 32, [(.int .u8 0), (.string ⟨#[]⟩), (.int .i64 0)], true⟩
theorem tyOk275 : tyOf Tryz.prog 275 = some ty275 := by kernel_rfl
def ty278 : Ty := ⟨(.struct [(4, 0, true), (5, 1, true)]), 2, 2, [(.bool false), (.int .u8 0)], true⟩
theorem tyOk278 : tyOf Tryz.prog 278 = some ty278 := by kernel_rfl
def ty280 : Ty := ⟨(.struct [(5, 0, true), (5, 1, true), (5, 2, true), (278, 3, true), (278, 5, true), (5, 7, true), (5, 8, true), (5, 9, true)]), 10, 10, [(.int .u8 0), (.int .u8 0), (.int .u8 0), (.bool false), (.int .u8 0), (.bool false), (.int .u8 0), (.int .u8 0), (.int .u8 0), (.int .u8 0)], true⟩
theorem tyOk280 : tyOf Tryz.prog 280 = some ty280 := by kernel_rfl
def ty282 : Ty := ⟨(.struct [(280, 0, true), (3, 10, true), (3, 11, true)]), 12, 32, [(.int .u8 0), (.int .u8 0), (.int .u8 0), (.bool false), (.int .u8 0), (.bool false), (.int .u8 0), (.int .u8 0), (.int .u8 0), (.int .u8 0), (.int .i64 0), (.int .i64 0)], true⟩
theorem tyOk282 : tyOf Tryz.prog 282 = some ty282 := by kernel_rfl
def ty283 : Ty := ⟨(.slice 47), 1, 24, [(.slice none 0 0)], true⟩
theorem tyOk283 : tyOf Tryz.prog 283 = some ty283 := by kernel_rfl
def ty286 : Ty := ⟨(.ptr 27), 1, 8, [(.pointer none)], true⟩
theorem tyOk286 : tyOf Tryz.prog 286 = some ty286 := by kernel_rfl
def ty287 : Ty := ⟨.func, 1, 8, [.nilFunc], true⟩
theorem tyOk287 : tyOf Tryz.prog 287 = some ty287 := by kernel_rfl
def ty288 : Ty := ⟨.func, 1, 8, [.nilFunc], true⟩
theorem tyOk288 : tyOf Tryz.prog 288 = some ty288 := by kernel_rfl
def ty290 : Ty := ⟨(.struct [(287, 0, true), (287, 1, true), (288, 2, true)]), 3, 24, [.nilFunc, .nilFunc, .nilFunc], true⟩
theorem tyOk290 : tyOf Tryz.prog 290 = some ty290 := by kernel_rfl
def ty292 : Ty := ⟨(.map 5 290), 1, 8, [(.map none)], true⟩
theorem tyOk292 : tyOf Tryz.prog 292 = some ty292 := by kernel_rfl
def ty297 : Ty := ⟨(.struct [(9, 0, true), (3, 1, true)]), 2, 24, [(.string ⟨#[]⟩), (.int .i64 0)], true⟩
theorem tyOk297 : tyOf Tryz.prog 297 = some ty297 := by kernel_rfl
def ty299 : Ty := ⟨(.struct [(297, 0, true), (4, 2, true)]), 3, 32, [(.string ⟨#[]⟩), (.int .i64 0), (.bool false)], true⟩
theorem tyOk299 : tyOf Tryz.prog 299 = some ty299 := by kernel_rfl
def ty304 : Ty := ⟨(.ptr 282), 1, 8, [(.pointer none)], true⟩
theorem tyOk304 : tyOf Tryz.prog 304 = some ty304 := by kernel_rfl
def ty318 : Ty := ⟨(.ptr 299), 1, 8, [(.pointer none)], true⟩
theorem tyOk318 : tyOf Tryz.prog 318 = some ty318 := by kernel_rfl
def ty328 : Ty := ⟨(.ptr 297), 1, 8, [(.pointer none)], true⟩
theorem tyOk328 : tyOf Tryz.prog 328 = some ty328 := by kernel_rfl
def ty345 : Ty := ⟨(.struct [(5, 0, true), (5, 1, true)]), 2, 2, [(.int .u8 0), (.int .u8 0)], true⟩
theorem tyOk345 : tyOf Tryz.prog 345 = some ty345 := by kernel_rfl
def passing : List Nat := [20, 21, 39, 66, 67, 68, 69, 73, 74, 77, 78, 81, 99, 100, 101, 102, 107, 111, 114, 117, 120, 126, 127, 128, 129, 130, 131, 133, 134, 135, 136, 137, 138, 139, 140, 144, 145, 146, 147, 151, 152, 154, 155, 156, 164, 165, 166, 168, 170, 171, 172, 173, 175, 176, 178, 179, 180, 181, 188, 196, 201, 202, 203, 204, 205, 206, 207, 209, 210, 211, 220, 221, 223, 224, 225, 226, 227, 229, 230, 231, 141, 160, 105, 148, 125]
def kpL (a b : List Nat) (l : List (List Nat)) (i : Nat) : List Nat := bif Nat.beq i 1000000 then a else bif Nat.beq i 2000000 then b else l.getD i []
structure Got (a : M) where
 m : M
 h : a = m
def bodyOf (f : Func) : Code := f.body.getD .skip
def loopsM : M → List M
 | .seq a b => loopsM a ++ loopsM b
 | .cond _ a b => loopsM a ++ loopsM b
 | .block _ a => loopsM a
 | .loop a => a :: loopsM a
 | .rf _ _ _ _ a b => (a :: loopsM a) ++ (b :: loopsM b)
 | _ => []
def g5 : Got (cmp 55 (kpL passing [] [[0, 1], [2, 3], [], [2, 3], [2, 3, 18, 19, 20], [2, 3, 18, 19, 20], [2, 3, 5, 6, 18, 19, 20], [], [2, 3, 18, 19, 20], [2, 3]]) (bodyOf Tryz.f5)) := by
 refine ⟨?m, ?h⟩
 case h => conv => lhs; reduce
def m5 : M := g5.m
def fn5 : MFn := ⟨55, [.tmp 4], m5, .shut⟩
theorem fnOk5 : FnOk Tryz.prog 5 fn5 := ⟨Tryz.f5, _, _, Tryz.func5, rfl, rfl, by kernel_rfl, by kernel_rfl, g5.h⟩
def g5_l0 : Got ((loopsM m5).getD 0 .bad) := by
 refine ⟨?m, ?h⟩
 case h => conv => lhs; cbv
def m5_l0 : M := g5_l0.m
theorem u5_l0 {C : Ctx} {k : List It} {st : St} {Q : Ex → St → Prop} : RunK C (.code m5_l0 :: k) st Q ↔ RunK C (.code g5_l0.m :: k) st Q := Iff.rfl
def g6 : Got (cmp 66 (kpL passing [] [[0, 1], [1, 2], [1, 2, 5], [1, 2, 5], [2, 5, 13, 14, 15], [2, 5, 13, 14, 15], [2, 5, 7, 13, 14, 15], [], [2, 5, 7, 13, 14, 15, 21], [2, 5, 7, 13, 14, 15, 21], [2, 5, 7, 13, 14, 15, 21], [2, 5, 7, 13, 14, 15, 21], [2, 5, 7, 13, 14, 15, 21], [2, 5, 7, 13, 14, 15], [], [2, 5, 7, 13, 14, 15], [], [2, 5, 7, 13, 14, 15], [2, 5, 13, 14, 15], []]) (bodyOf Tryz.f6)) := by
 refine ⟨?m, ?h⟩
 case h => conv => lhs; reduce
def m6 : M := g6.m
def fn6 : MFn := ⟨66, [.tmp 4], m6, .shut⟩
theorem fnOk6 : FnOk Tryz.prog 6 fn6 := ⟨Tryz.f6, _, _, Tryz.func6, rfl, rfl, by kernel_rfl, by kernel_rfl, g6.h⟩
def g6_l0 : Got ((loopsM m6).getD 0 .bad) := by
 refine ⟨?m, ?h⟩
 case h => conv => lhs; cbv
def m6_l0 : M := g6_l0.m
theorem u6_l0 {C : Ctx} {k : List It} {st : St} {Q : Ex → St → Prop} : RunK C (.code m6_l0 :: k) st Q ↔ RunK C (.code g6_l0.m :: k) st Q := Iff.rfl
def g8 : Got (cmp 78 (kpL passing [] [[], [], [1, 2], [], [1, 2], [1, 2, 3], [1, 2, 3], [1, 2, 3, 4, 5], [1, 2, 3, 4, 5, 6]]) (bodyOf Tryz.f8)) := by
 refine ⟨?m, ?h⟩
 case h => conv => lhs; reduce
def m8 : M := g8.m
def fn8 : MFn := ⟨78, [.tmp 0], m8, .shut⟩
theorem fnOk8 : FnOk Tryz.prog 8 fn8 := ⟨Tryz.f8, _, _, Tryz.func8, rfl, rfl, by kernel_rfl, by kernel_rfl, g8.h⟩
def g9 : Got (cmp 27 (kpL passing [] [[0, 1], [1, 2], [1, 2, 6], [1, 2, 6], [2], [1, 2, 6], [1, 2], [1, 2, 6], [1, 2], [2], [1]]) (bodyOf Tryz.f9)) := by
 refine ⟨?m, ?h⟩
 case h => conv => lhs; cbv
def m9 : M := g9.m
def fn9 : MFn := ⟨27, [.tmp 4], m9, .shut⟩
theorem fnOk9 : FnOk Tryz.prog 9 fn9 := ⟨Tryz.f9, _, _, Tryz.func9, rfl, rfl, by kernel_rfl, by kernel_rfl, g9.h⟩
def g10 : Got (cmp 13 (kpL passing [] [[0, 1], [2, 3]]) (bodyOf Tryz.f10)) := by
 refine ⟨?m, ?h⟩
 case h => conv => lhs; cbv
def m10 : M := g10.m
def fn10 : MFn := ⟨13, [.tmp 4], m10, .shut⟩
theorem fnOk10 : FnOk Tryz.prog 10 fn10 := ⟨Tryz.f10, _, _, Tryz.func10, rfl, rfl, by kernel_rfl, by kernel_rfl, g10.h⟩
def g11 : Got (cmp 13 (kpL passing [] [[0, 1], [2, 3]]) (bodyOf Tryz.f11)) := by
 refine ⟨?m, ?h⟩
 case h => conv => lhs; cbv
def m11 : M := g11.m
def fn11 : MFn := ⟨13, [.tmp 4], m11, .shut⟩
theorem fnOk11 : FnOk Tryz.prog 11 fn11 := ⟨Tryz.f11, _, _, Tryz.func11, rfl, rfl, by kernel_rfl, by kernel_rfl, g11.h⟩
def g12 : Got (cmp 13 (kpL passing [] [[0, 1], [2, 3]]) (bodyOf Tryz.f12)) := by
 refine ⟨?m, ?h⟩
 case h => conv => lhs; cbv
def m12 : M := g12.m
def fn12 : MFn := ⟨13, [.tmp 4], m12, .shut⟩
theorem fnOk12 : FnOk Tryz.prog 12 fn12 := ⟨Tryz.f12, _, _, Tryz.func12, rfl, rfl, by kernel_rfl, by kernel_rfl, g12.h⟩
def g13 : Got (cmp 13 (kpL passing [] [[0, 1], [2, 3]]) (bodyOf Tryz.f13)) := by
 refine ⟨?m, ?h⟩
 case h => conv => lhs; cbv
def m13 : M := g13.m
def fn13 : MFn := ⟨13, [.tmp 4], m13, .shut⟩
theorem fnOk13 : FnOk Tryz.prog 13 fn13 := ⟨Tryz.f13, _, _, Tryz.func13, rfl, rfl, by kernel_rfl, by kernel_rfl, g13.h⟩
def g14 : Got (cmp 61 (kpL passing [] [[0, 1, 2], [2, 3, 4], [], [2, 3, 4], [2, 3, 4, 7], [2, 3, 4, 7], [2, 3, 4, 7], [], []]) (bodyOf Tryz.f14)) := by
 refine ⟨?m, ?h⟩
 case h => conv => lhs; cbv
def m14 : M := g14.m
def fn14 : MFn := ⟨61, [.tmp 6], m14, .shut⟩
theorem fnOk14 : FnOk Tryz.prog 14 fn14 := ⟨Tryz.f14, _, _, Tryz.func14, rfl, rfl, by kernel_rfl, by kernel_rfl, g14.h⟩
def g14_l0 : Got ((loopsM m14).getD 0 .bad) := by
 refine ⟨?m, ?h⟩
 case h => conv => lhs; cbv
def m14_l0 : M := g14_l0.m
theorem u14_l0 {C : Ctx} {k : List It} {st : St} {Q : Ex → St → Prop} : RunK C (.code m14_l0 :: k) st Q ↔ RunK C (.code g14_l0.m :: k) st Q := Iff.rfl
def g15 : Got (cmp 64 (kpL passing [] [[0, 1], [2, 3], [], [2, 3], [2, 3, 24, 25, 26], [2, 3, 24, 25, 26], [2, 3, 6, 24, 25, 26], [], [2, 3, 24, 25, 26], [2, 3], [2, 3, 37, 38, 39], [2, 3, 37, 38, 39], [2, 3, 8, 37, 38, 39], [], [2, 3, 37, 38, 39], [2, 3], [2, 3, 51, 52], [2, 3, 51, 52], [2, 3, 9, 51, 52], [], [2, 3, 51, 52], []]) (bodyOf Tryz.f15)) := by
 refine ⟨?m, ?h⟩
 case h => conv => lhs; reduce
def m15 : M := g15.m
def fn15 : MFn := ⟨64, [.tmp 4], m15, .shut⟩
theorem fnOk15 : FnOk Tryz.prog 15 fn15 := ⟨Tryz.f15, _, _, Tryz.func15, rfl, rfl, by kernel_rfl, by kernel_rfl, g15.h⟩
def g15_l0 : Got ((loopsM m15).getD 0 .bad) := by
 refine ⟨?m, ?h⟩
 case h => conv => lhs; cbv
def m15_l0 : M := g15_l0.m
theorem u15_l0 {C : Ctx} {k : List It} {st : St} {Q : Ex → St → Prop} : RunK C (.code m15_l0 :: k) st Q ↔ RunK C (.code g15_l0.m :: k) st Q := Iff.rfl
def g15_l1 : Got ((loopsM m15).getD 1 .bad) := by
 refine ⟨?m, ?h⟩
 case h => conv => lhs; cbv
def m15_l1 : M := g15_l1.m
theorem u15_l1 {C : Ctx} {k : List It} {st : St} {Q : Ex → St → Prop} : RunK C (.code m15_l1 :: k) st Q ↔ RunK C (.code g15_l1.m :: k) st Q := Iff.rfl
def g15_l2 : Got ((loopsM m15).getD 2 .bad) := by
 refine ⟨?m, ?h⟩
 case h => conv => lhs; cbv
def m15_l2 : M := g15_l2.m
theorem u15_l2 {C : Ctx} {k : List It} {st : St} {Q : Ex → St → Prop} : RunK C (.code m15_l2 :: k) st Q ↔ RunK C (.code g15_l2.m :: k) st Q := Iff.rfl
def g16 : Got (cmp 105 (kpL passing [] [[0, 1], [2, 3], [], [2, 3], [2, 3, 5], [2, 3, 5], [2, 3, 5], [], [2, 3], [2, 3, 6], [2, 3, 6], [2, 3, 6], [], [2, 3], [2, 3, 7], [2, 3, 7], [2, 3, 7], [2, 3, 7, 8], [], []]) (bodyOf Tryz.f16)) := by
 refine ⟨?m, ?h⟩
 case h => conv => lhs; reduce
def m16 : M := g16.m
def fn16 : MFn := ⟨105, [.tmp 4], m16, .shut⟩
theorem fnOk16 : FnOk Tryz.prog 16 fn16 := ⟨Tryz.f16, _, _, Tryz.func16, rfl, rfl, by kernel_rfl, by kernel_rfl, g16.h⟩
def g16_l0 : Got ((loopsM m16).getD 0 .bad) := by
 refine ⟨?m, ?h⟩
 case h => conv => lhs; cbv
def m16_l0 : M := g16_l0.m
theorem u16_l0 {C : Ctx} {k : List It} {st : St} {Q : Ex → St → Prop} : RunK C (.code m16_l0 :: k) st Q ↔ RunK C (.code g16_l0.m :: k) st Q := Iff.rfl
def g16_l1 : Got ((loopsM m16).getD 1 .bad) := by
 refine ⟨?m, ?h⟩
 case h => conv => lhs; cbv
def m16_l1 : M := g16_l1.m
theorem u16_l1 {C : Ctx} {k : List It} {st : St} {Q : Ex → St → Prop} : RunK C (.code m16_l1 :: k) st Q ↔ RunK C (.code g16_l1.m :: k) st Q := Iff.rfl
def g16_l2 : Got ((loopsM m16).getD 2 .bad) := by
 refine ⟨?m, ?h⟩
 case h => conv => lhs; cbv
def m16_l2 : M := g16_l2.m
theorem u16_l2 {C : Ctx} {k : List It} {st : St} {Q : Ex → St → Prop} : RunK C (.code m16_l2 :: k) st Q ↔ RunK C (.code g16_l2.m :: k) st Q := Iff.rfl
def g17 : Got (cmp 24 (kpL passing [] [[0, 1], [2, 3], [], [2, 3], [2, 3, 11, 12], [2, 3, 11, 12], [2, 3, 5, 11, 12], [5], [2, 3, 11, 12], []]) (bodyOf Tryz.f17)) := by
 refine ⟨?m, ?h⟩
 case h => conv => lhs; cbv
def m17 : M := g17.m
def fn17 : MFn := ⟨24, [.tmp 4], m17, .shut⟩
theorem fnOk17 : FnOk Tryz.prog 17 fn17 := ⟨Tryz.f17, _, _, Tryz.func17, rfl, rfl, by kernel_rfl, by kernel_rfl, g17.h⟩
def g17_l0 : Got ((loopsM m17).getD 0 .bad) := by
 refine ⟨?m, ?h⟩
 case h => conv => lhs; cbv
def m17_l0 : M := g17_l0.m
theorem u17_l0 {C : Ctx} {k : List It} {st : St} {Q : Ex → St → Prop} : RunK C (.code m17_l0 :: k) st Q ↔ RunK C (.code g17_l0.m :: k) st Q := Iff.rfl
def g18 : Got (cmp 22 (kpL passing [] [[0, 1], [2, 3], [], [2, 3], [2, 3, 5], [2, 3, 5], [2, 3, 5], [5], []]) (bodyOf Tryz.f18)) := by
 refine ⟨?m, ?h⟩
 case h => conv => lhs; cbv
def m18 : M := g18.m
def fn18 : MFn := ⟨22, [.tmp 4], m18, .shut⟩
theorem fnOk18 : FnOk Tryz.prog 18 fn18 := ⟨Tryz.f18, _, _, Tryz.func18, rfl, rfl, by kernel_rfl, by kernel_rfl, g18.h⟩
def g18_l0 : Got ((loopsM m18).getD 0 .bad) := by
 refine ⟨?m, ?h⟩
 case h => conv => lhs; cbv
def m18_l0 : M := g18_l0.m
theorem u18_l0 {C : Ctx} {k : List It} {st : St} {Q : Ex → St → Prop} : RunK C (.code m18_l0 :: k) st Q ↔ RunK C (.code g18_l0.m :: k) st Q := Iff.rfl
def g19 : Got (cmp 31 (kpL passing [] [[0, 1], [1, 2], [1, 2, 6], [1, 2, 6], [2], [1, 2, 6], [1, 2], [1, 2, 6], [1, 2], [2], [1]]) (bodyOf Tryz.f19)) := by
 refine ⟨?m, ?h⟩
 case h => conv => lhs; cbv
def m19 : M := g19.m
def fn19 : MFn := ⟨31, [.tmp 4], m19, .shut⟩
theorem fnOk19 : FnOk Tryz.prog 19 fn19 := ⟨Tryz.f19, _, _, Tryz.func19, rfl, rfl, by kernel_rfl, by kernel_rfl, g19.h⟩
def g20 : Got (cmp 27 (kpL passing [] [[], [0, 1], [0, 1, 2], [0, 1, 4], [0, 1, 4, 5]]) (bodyOf Tryz.f20)) := by
 refine ⟨?m, ?h⟩
 case h => conv => lhs; reduce
def m20 : M := g20.m
def fn20 : MFn := ⟨27, [.cell 0 44, .cell 1 69], m20, .pass⟩
theorem fnOk20 : FnOk Tryz.prog 20 fn20 := ⟨Tryz.f20, _, _, Tryz.func20, rfl, rfl, by kernel_rfl, by kernel_rfl, g20.h⟩
def g21 : Got (cmp 25 (kpL passing [] [[0, 1, 2, 3], [1, 2, 4, 7, 8], [1, 2, 4, 7, 8], [4, 8]]) (bodyOf Tryz.f21)) := by
 refine ⟨?m, ?h⟩
 case h => conv => lhs; reduce
def m21 : M := g21.m
def fn21 : MFn := ⟨25, [.cell 8 69], m21, .pass⟩
theorem fnOk21 : FnOk Tryz.prog 21 fn21 := ⟨Tryz.f21, _, _, Tryz.func21, rfl, rfl, by kernel_rfl, by kernel_rfl, g21.h⟩
def g22 : Got (cmp 83 (kpL passing [] [[0, 1, 2], [2, 3, 4], [3, 4, 7], [3, 4, 7, 23, 24], [3, 4, 7, 23, 24], [3, 4, 7, 8, 23, 24], [3, 4, 7, 8, 9, 23, 24], [3, 4, 7, 8, 9, 23, 24, 36, 37, 38], [3, 4, 7, 8, 9, 23, 24, 36, 37, 38], [3, 4, 7, 8, 9, 11, 23, 24, 36, 37, 38], [3, 4, 7, 8, 9, 12, 13, 23, 24, 36, 37, 38], [3, 4, 7, 8, 9, 12, 23, 24, 36, 37, 38], [3, 4, 7, 8, 9, 12, 23, 24, 36, 37, 38], [3, 4, 7, 8, 9, 23, 24, 36, 37, 38], [3, 4, 7, 8, 9, 23, 24], [3, 4, 7, 8, 9, 23, 24, 62, 63, 64], [3, 4, 7, 8, 9, 23, 24, 62, 63, 64], [3, 4, 7, 8, 9, 15, 23, 24, 62, 63, 64], [3, 4, 7, 8, 9, 15, 23, 24, 62, 63, 64], [3, 4, 7, 8, 9, 23, 24, 62, 63, 64], [3, 4, 7, 9, 23, 24], [], [3, 4, 7, 23, 24], []]) (bodyOf Tryz.f22)) := by
 refine ⟨?m, ?h⟩
 case h => conv => lhs; reduce
def m22 : M := g22.m
def fn22 : MFn := ⟨83, [.tmp 6], m22, .shut⟩
theorem fnOk22 : FnOk Tryz.prog 22 fn22 := ⟨Tryz.f22, _, _, Tryz.func22, rfl, rfl, by kernel_rfl, by kernel_rfl, g22.h⟩
def g22_l0 : Got ((loopsM m22).getD 0 .bad) := by
 refine ⟨?m, ?h⟩
 case h => conv => lhs; cbv
def m22_l0 : M := g22_l0.m
theorem u22_l0 {C : Ctx} {k : List It} {st : St} {Q : Ex → St → Prop} : RunK C (.code m22_l0 :: k) st Q ↔ RunK C (.code g22_l0.m :: k) st Q := Iff.rfl
def g22_l1 : Got ((loopsM m22).getD 1 .bad) := by
 refine ⟨?m, ?h⟩
 case h => conv => lhs; cbv
def m22_l1 : M := g22_l1.m
theorem u22_l1 {C : Ctx} {k : List It} {st : St} {Q : Ex → St → Prop} : RunK C (.code m22_l1 :: k) st Q ↔ RunK C (.code g22_l1.m :: k) st Q := Iff.rfl
def g22_l2 : Got ((loopsM m22).getD 2 .bad) := by
 refine ⟨?m, ?h⟩
 case h => conv => lhs; cbv
def m22_l2 : M := g22_l2.m
theorem u22_l2 {C : Ctx} {k : List It} {st : St} {Q : Ex → St → Prop} : RunK C (.code m22_l2 :: k) st Q ↔ RunK C (.code g22_l2.m :: k) st Q := Iff.rfl
def g23 : Got (cmp 17 (kpL passing [] [[0], [1], [1, 3], [1, 3, 4], [1, 3, 4], [1, 3, 4], [1, 3, 4], [3]]) (bodyOf Tryz.f23)) := by
 refine ⟨?m, ?h⟩
 case h => conv => lhs; cbv
def m23 : M := g23.m
def fn23 : MFn := ⟨17, [.tmp 2], m23, .shut⟩
theorem fnOk23 : FnOk Tryz.prog 23 fn23 := ⟨Tryz.f23, _, _, Tryz.func23, rfl, rfl, by kernel_rfl, by kernel_rfl, g23.h⟩
def g23_l0 : Got ((loopsM m23).getD 0 .bad) := by
 refine ⟨?m, ?h⟩
 case h => conv => lhs; cbv
def m23_l0 : M := g23_l0.m
theorem u23_l0 {C : Ctx} {k : List It} {st : St} {Q : Ex → St → Prop} : RunK C (.code m23_l0 :: k) st Q ↔ RunK C (.code g23_l0.m :: k) st Q := Iff.rfl
def g24 : Got (cmp 60 (kpL passing [] [[0, 1, 2], [2, 3, 4], [2, 3, 4, 7], [2, 3, 4, 7], [2, 3, 4, 7], [2, 3, 4, 7, 8], [2, 3, 4, 7, 8], [2, 3, 4, 7, 8], [2, 3, 4, 7, 8, 9, 10], [], []]) (bodyOf Tryz.f24)) := by
 refine ⟨?m, ?h⟩
 case h => conv => lhs; reduce
def m24 : M := g24.m
def fn24 : MFn := ⟨60, [.tmp 6], m24, .shut⟩
theorem fnOk24 : FnOk Tryz.prog 24 fn24 := ⟨Tryz.f24, _, _, Tryz.func24, rfl, rfl, by kernel_rfl, by kernel_rfl, g24.h⟩
def g24_l0 : Got ((loopsM m24).getD 0 .bad) := by
 refine ⟨?m, ?h⟩
 case h => conv => lhs; cbv
def m24_l0 : M := g24_l0.m
theorem u24_l0 {C : Ctx} {k : List It} {st : St} {Q : Ex → St → Prop} : RunK C (.code m24_l0 :: k) st Q ↔ RunK C (.code g24_l0.m :: k) st Q := Iff.rfl
def g24_l1 : Got ((loopsM m24).getD 1 .bad) := by
 refine ⟨?m, ?h⟩
 case h => conv => lhs; cbv
def m24_l1 : M := g24_l1.m
theorem u24_l1 {C : Ctx} {k : List It} {st : St} {Q : Ex → St → Prop} : RunK C (.code m24_l1 :: k) st Q ↔ RunK C (.code g24_l1.m :: k) st Q := Iff.rfl
def g25 : Got (cmp 86 (kpL passing [] [[0, 1, 2], [2, 3, 4], [2, 3, 4, 7], [2, 3, 4, 7, 8], [2, 3, 4, 7, 8], [2, 3, 4, 7, 8], [2, 3, 4, 7, 8, 9], [2, 3, 4, 7, 8, 9], [2, 3, 4, 7, 8, 9, 10], [2, 3, 4, 7, 8, 9, 10], [2, 3, 4, 7, 8, 9, 10], [2, 3, 4, 7, 8, 9, 10, 11], [], [2, 3, 4, 7, 8, 9], [], []]) (bodyOf Tryz.f25)) := by
 refine ⟨?m, ?h⟩
 case h => conv => lhs; cbv
def m25 : M := g25.m
def fn25 : MFn := ⟨86, [.tmp 6], m25, .shut⟩
theorem fnOk25 : FnOk Tryz.prog 25 fn25 := ⟨Tryz.f25, _, _, Tryz.func25, rfl, rfl, by kernel_rfl, by kernel_rfl, g25.h⟩
def g25_l0 : Got ((loopsM m25).getD 0 .bad) := by
 refine ⟨?m, ?h⟩
 case h => conv => lhs; cbv
def m25_l0 : M := g25_l0.m
theorem u25_l0 {C : Ctx} {k : List It} {st : St} {Q : Ex → St → Prop} : RunK C (.code m25_l0 :: k) st Q ↔ RunK C (.code g25_l0.m :: k) st Q := Iff.rfl
def g25_l1 : Got ((loopsM m25).getD 1 .bad) := by
 refine ⟨?m, ?h⟩
 case h => conv => lhs; cbv
def m25_l1 : M := g25_l1.m
theorem u25_l1 {C : Ctx} {k : List It} {st : St} {Q : Ex → St → Prop} : RunK C (.code m25_l1 :: k) st Q ↔ RunK C (.code g25_l1.m :: k) st Q := Iff.rfl
def g26 : Got (cmp 114 (kpL passing [] [[0, 1, 2], [2, 3, 4], [2, 3, 4, 7], [], [2, 3, 4, 7], [], [2, 3, 4, 7], [2, 3, 4, 7, 8], [2, 3, 4, 7, 8], [2, 3, 4, 7, 8], [2, 3, 4, 7, 8, 9], [2, 3, 4, 7, 8, 9, 10], [], [2, 3, 4, 7, 8, 9, 10], [], [2, 3, 4, 7, 8, 9, 10], [], []]) (bodyOf Tryz.f26)) := by
 refine ⟨?m, ?h⟩
 case h => conv => lhs; cbv
def m26 : M := g26.m
def fn26 : MFn := ⟨114, [.tmp 6], m26, .shut⟩
theorem fnOk26 : FnOk Tryz.prog 26 fn26 := ⟨Tryz.f26, _, _, Tryz.func26, rfl, rfl, by kernel_rfl, by kernel_rfl, g26.h⟩
def g26_l0 : Got ((loopsM m26).getD 0 .bad) := by
 refine ⟨?m, ?h⟩
 case h => conv => lhs; cbv
def m26_l0 : M := g26_l0.m
theorem u26_l0 {C : Ctx} {k : List It} {st : St} {Q : Ex → St → Prop} : RunK C (.code m26_l0 :: k) st Q ↔ RunK C (.code g26_l0.m :: k) st Q := Iff.rfl
def g27 : Got (cmp 237 (kpL passing [] [[0, 1, 2], [2, 3, 4], [2, 3, 4, 7], [2, 3, 4, 7, 8, 9], [2, 3, 4, 7, 8, 9, 10], [2, 3, 4, 7, 8, 9, 10, 11], [2, 3, 4, 7, 8, 9, 10, 11], [2, 3, 4, 7, 8, 9, 10, 11], [2, 3, 4, 7, 8, 9, 10, 11, 12, 13], [2, 3, 4, 7, 8, 9, 10, 11, 12, 13], [2, 3, 4, 7, 8, 9, 10, 11, 12, 13, 14], [2, 3, 4, 7, 8, 9, 10, 11, 12, 13, 14, 15], [2, 3, 4, 7, 8, 9, 10, 11, 12, 13, 14, 15], [2, 3, 4, 7, 8, 9, 10, 11, 12, 13, 14, 15], [2, 3, 4, 7, 8, 9, 10, 11, 12, 13, 14, 15, 16], [2, 3, 4, 7, 8, 9, 10, 11, 12, 13, 14, 15, 16], [2, 3, 4, 7, 8, 9, 10, 11, 12, 13, 14], [], [2, 3, 4, 7, 8, 9, 10, 11, 12, 13], [2, 3, 4, 7, 8, 9, 10, 11, 12, 13, 17], [2, 3, 4, 7, 8, 9, 10, 11, 12, 13, 17, 18], [2, 3, 4, 7, 8, 9, 10, 11, 12, 13, 17, 18, 19], [2, 3, 4, 7, 8, 9, 10, 11, 13, 17, 18, 19, 20], [], [2, 4, 8, 9, 10], [], [2, 4, 9], [2, 4], [2, 4]]) (bodyOf Tryz.f27)) := by
 refine ⟨?m, ?h⟩
 case h => conv => lhs; reduce
def m27 : M := g27.m
def fn27 : MFn := ⟨237, [.tmp 6], m27, .shut⟩
theorem fnOk27 : FnOk Tryz.prog 27 fn27 := ⟨Tryz.f27, _, _, Tryz.func27, rfl, rfl, by kernel_rfl, by kernel_rfl, g27.h⟩
def g27_l0 : Got ((loopsM m27).getD 0 .bad) := by
 refine ⟨?m, ?h⟩
 case h => conv => lhs; cbv
def m27_l0 : M := g27_l0.m
theorem u27_l0 {C : Ctx} {k : List It} {st : St} {Q : Ex → St → Prop} : RunK C (.code m27_l0 :: k) st Q ↔ RunK C (.code g27_l0.m :: k) st Q := Iff.rfl
def g27_l1 : Got ((loopsM m27).getD 1 .bad) := by
 refine ⟨?m, ?h⟩
 case h => conv => lhs; cbv
def m27_l1 : M := g27_l1.m
theorem u27_l1 {C : Ctx} {k : List It} {st : St} {Q : Ex → St → Prop} : RunK C (.code m27_l1 :: k) st Q ↔ RunK C (.code g27_l1.m :: k) st Q := Iff.rfl
def g28 : Got (cmp 30 (kpL passing [] [[0], [1], [15, 16], [15, 16], [3, 4, 15, 16], [], [15, 16], []]) (bodyOf Tryz.f28)) := by
 refine ⟨?m, ?h⟩
 case h => conv => lhs; cbv
def m28 : M := g28.m
def fn28 : MFn := ⟨30, [.tmp 2], m28, .shut⟩
theorem fnOk28 : FnOk Tryz.prog 28 fn28 := ⟨Tryz.f28, _, _, Tryz.func28, rfl, rfl, by kernel_rfl, by kernel_rfl, g28.h⟩
def g28_l0 : Got ((loopsM m28).getD 0 .bad) := by
 refine ⟨?m, ?h⟩
 case h => conv => lhs; cbv
def m28_l0 : M := g28_l0.m
theorem u28_l0 {C : Ctx} {k : List It} {st : St} {Q : Ex → St → Prop} : RunK C (.code m28_l0 :: k) st Q ↔ RunK C (.code g28_l0.m :: k) st Q := Iff.rfl
def g29 : Got (cmp 19 (kpL passing [] [[0, 1], [2, 3], [], [2, 3], [3, 5]]) (bodyOf Tryz.f29)) := by
 refine ⟨?m, ?h⟩
 case h => conv => lhs; cbv
def m29 : M := g29.m
def fn29 : MFn := ⟨19, [.tmp 4], m29, .shut⟩
theorem fnOk29 : FnOk Tryz.prog 29 fn29 := ⟨Tryz.f29, _, _, Tryz.func29, rfl, rfl, by kernel_rfl, by kernel_rfl, g29.h⟩
def g30 : Got (cmp 47 (kpL passing [] [[0, 1], [2, 3], [], [2, 3], [5]]) (bodyOf Tryz.f30)) := by
 refine ⟨?m, ?h⟩
 case h => conv => lhs; reduce
def m30 : M := g30.m
def fn30 : MFn := ⟨47, [.tmp 4], m30, .shut⟩
theorem fnOk30 : FnOk Tryz.prog 30 fn30 := ⟨Tryz.f30, _, _, Tryz.func30, rfl, rfl, by kernel_rfl, by kernel_rfl, g30.h⟩
def g31 : Got (cmp 16 (kpL passing [] [[0], [1], [3, 4], [], [3]]) (bodyOf Tryz.f31)) := by
 refine ⟨?m, ?h⟩
 case h => conv => lhs; cbv
def m31 : M := g31.m
def fn31 : MFn := ⟨16, [.tmp 2], m31, .shut⟩
theorem fnOk31 : FnOk Tryz.prog 31 fn31 := ⟨Tryz.f31, _, _, Tryz.func31, rfl, rfl, by kernel_rfl, by kernel_rfl, g31.h⟩
def g32 : Got (cmp 42 (kpL passing [] [[0, 1], [2, 3]]) (bodyOf Tryz.f32)) := by
 refine ⟨?m, ?h⟩
 case h => conv => lhs; cbv
def m32 : M := g32.m
def fn32 : MFn := ⟨42, [.tmp 4], m32, .shut⟩
theorem fnOk32 : FnOk Tryz.prog 32 fn32 := ⟨Tryz.f32, _, _, Tryz.func32, rfl, rfl, by kernel_rfl, by kernel_rfl, g32.h⟩
def g33 : Got (cmp 26 (kpL passing [] [[0], [1]]) (bodyOf Tryz.f33)) := by
 refine ⟨?m, ?h⟩
 case h => conv => lhs; cbv
def m33 : M := g33.m
def fn33 : MFn := ⟨26, [.tmp 2], m33, .shut⟩
theorem fnOk33 : FnOk Tryz.prog 33 fn33 := ⟨Tryz.f33, _, _, Tryz.func33, rfl, rfl, by kernel_rfl, by kernel_rfl, g33.h⟩
def g34 : Got (cmp 121 (kpL passing [] [[0, 1], [2, 3], [], [2, 3], [2, 3, 5], [2, 3, 5], [2, 3, 5], [2, 3, 5, 6], [2, 3, 5, 6], [2, 3, 5, 6], [2, 3, 5, 6, 7], [2, 3, 5, 6, 7], [], [2, 3, 5, 6, 7], [2, 3, 5, 6, 7, 8, 9, 10], [], [2, 3, 5], [2, 3, 5, 11], [], []]) (bodyOf Tryz.f34)) := by
 refine ⟨?m, ?h⟩
 case h => conv => lhs; reduce
def m34 : M := g34.m
def fn34 : MFn := ⟨121, [.tmp 4], m34, .shut⟩
theorem fnOk34 : FnOk Tryz.prog 34 fn34 := ⟨Tryz.f34, _, _, Tryz.func34, rfl, rfl, by kernel_rfl, by kernel_rfl, g34.h⟩
def g34_l0 : Got ((loopsM m34).getD 0 .bad) := by
 refine ⟨?m, ?h⟩
 case h => conv => lhs; cbv
def m34_l0 : M := g34_l0.m
theorem u34_l0 {C : Ctx} {k : List It} {st : St} {Q : Ex → St → Prop} : RunK C (.code m34_l0 :: k) st Q ↔ RunK C (.code g34_l0.m :: k) st Q := Iff.rfl
def g34_l1 : Got ((loopsM m34).getD 1 .bad) := by
 refine ⟨?m, ?h⟩
 case h => conv => lhs; cbv
def m34_l1 : M := g34_l1.m
theorem u34_l1 {C : Ctx} {k : List It} {st : St} {Q : Ex → St → Prop} : RunK C (.code m34_l1 :: k) st Q ↔ RunK C (.code g34_l1.m :: k) st Q := Iff.rfl
def g35 : Got (cmp 198 (kpL passing [] [[0, 1], [2, 3], [], [2, 3], [2, 3, 5], [2, 3, 5, 6], [2, 3, 5, 6, 7], [2, 3, 6, 7, 8], [2, 3, 6, 7, 8, 9], [2, 3, 6, 7, 8, 9, 10], [2, 3, 6, 7, 8], [2, 3, 6, 8, 9, 10], [2, 3, 6, 8], [2, 3, 6, 8, 9, 10], [2, 3, 6, 8, 9], [2, 3, 6, 8, 9, 10], [2, 3, 6, 8, 9], [2, 3, 6, 8, 10], [2, 3, 6, 8, 10, 11], [2, 3, 6, 8, 10], [2, 3, 6, 8, 10, 11], [2, 3, 6, 8, 10, 11, 12], [2, 3, 6, 10, 11, 12, 13], [2, 3, 10, 11, 12, 13, 14], [3, 10, 11, 12, 13, 14, 15], [3, 10, 11, 12, 13, 14, 15], [3, 10, 11, 12, 13, 14, 15], [10, 11, 12, 13, 14]]) (bodyOf Tryz.f35)) := by
 refine ⟨?m, ?h⟩
 case h => conv => lhs; reduce
def m35 : M := g35.m
def fn35 : MFn := ⟨198, [.tmp 4], m35, .shut⟩
theorem fnOk35 : FnOk Tryz.prog 35 fn35 := ⟨Tryz.f35, _, _, Tryz.func35, rfl, rfl, by kernel_rfl, by kernel_rfl, g35.h⟩
def g35_l0 : Got ((loopsM m35).getD 0 .bad) := by
 refine ⟨?m, ?h⟩
 case h => conv => lhs; cbv
def m35_l0 : M := g35_l0.m
theorem u35_l0 {C : Ctx} {k : List It} {st : St} {Q : Ex → St → Prop} : RunK C (.code m35_l0 :: k) st Q ↔ RunK C (.code g35_l0.m :: k) st Q := Iff.rfl
def g36 : Got (cmp 67 (kpL passing [] [[0, 1], [1, 2], [], [1, 2], [1, 2, 5, 6], [1, 2, 5, 6, 24], [2, 6], [1, 2, 5, 6, 24], [2, 5, 6], [1, 2], [2, 6]]) (bodyOf Tryz.f36)) := by
 refine ⟨?m, ?h⟩
 case h => conv => lhs; cbv
def m36 : M := g36.m
def fn36 : MFn := ⟨67, [.tmp 4], m36, .shut⟩
theorem fnOk36 : FnOk Tryz.prog 36 fn36 := ⟨Tryz.f36, _, _, Tryz.func36, rfl, rfl, by kernel_rfl, by kernel_rfl, g36.h⟩
def g37 : Got (cmp 6 (kpL passing [] [[], [0]]) (bodyOf Tryz.f37)) := by
 refine ⟨?m, ?h⟩
 case h => conv => lhs; cbv
def m37 : M := g37.m
def fn37 : MFn := ⟨6, [.cell 0 98], m37, .shut⟩
theorem fnOk37 : FnOk Tryz.prog 37 fn37 := ⟨Tryz.f37, _, _, Tryz.func37, rfl, rfl, by kernel_rfl, by kernel_rfl, g37.h⟩
def g38 : Got (cmp 37 (kpL passing [] [[0], [0, 2], [2, 4], [2], [2, 4], [2, 4, 5, 7], [2, 7], [2, 4, 5], [2, 4], [2, 4, 7], [2, 7], [2, 4]]) (bodyOf Tryz.f38)) := by
 refine ⟨?m, ?h⟩
 case h => conv => lhs; cbv
def m38 : M := g38.m
def fn38 : MFn := ⟨37, [.cell 2 42, .tmp 3], m38, .shut⟩
theorem fnOk38 : FnOk Tryz.prog 38 fn38 := ⟨Tryz.f38, _, _, Tryz.func38, rfl, rfl, by kernel_rfl, by kernel_rfl, g38.h⟩
def g39 : Got (cmp 84 (kpL passing [] [[0], [1, 2], [2], [1, 2], [1, 2, 4], [1, 2, 4, 15, 16], [1, 2, 4, 15, 16], [1, 2, 4, 15, 16], [1, 2, 4, 15, 16], [1, 2, 4], [1, 2, 4, 39, 40], [1, 2, 4, 39, 40], [1, 2, 4, 5, 39, 40], [1, 2, 4, 5, 6, 39, 40], [1, 2, 4, 5, 6, 39, 40, 46, 47, 48], [1, 2, 4, 5, 6, 39, 40, 46, 47, 48], [1, 2, 4, 5, 6, 8, 39, 40, 46, 47, 48], [1, 2, 4, 5, 6, 8, 39, 40, 46, 47, 48], [1, 2, 4, 5, 6, 39, 40, 46, 47, 48], [1, 2, 4, 5, 6, 39, 40], [1, 2, 4, 39, 40], [2, 4]]) (bodyOf Tryz.f39)) := by
 refine ⟨?m, ?h⟩
 case h => conv => lhs; reduce
def m39 : M := g39.m
def fn39 : MFn := ⟨84, [.cell 2 69, .tmp 3], m39, .pass⟩
theorem fnOk39 : FnOk Tryz.prog 39 fn39 := ⟨Tryz.f39, _, _, Tryz.func39, rfl, rfl, by kernel_rfl, by kernel_rfl, g39.h⟩
def g40 : Got (cmp 28 (kpL passing [] [[0, 1, 2], [2, 3, 4, 6], [4, 6, 8, 9, 10], [6], [4, 6, 8, 9]]) (bodyOf Tryz.f40)) := by
 refine ⟨?m, ?h⟩
 case h => conv => lhs; cbv
def m40 : M := g40.m
def fn40 : MFn := ⟨28, [.cell 6 83, .tmp 7], m40, .shut⟩
theorem fnOk40 : FnOk Tryz.prog 40 fn40 := ⟨Tryz.f40, _, _, Tryz.func40, rfl, rfl, by kernel_rfl, by kernel_rfl, g40.h⟩
def g41 : Got (cmp 25 (kpL passing [] [[0, 1], [1, 2], [1, 2, 5], [1, 2, 5, 6], [1, 2, 5, 6], [1, 2, 5, 6], [1, 2, 5, 6], [5]]) (bodyOf Tryz.f41)) := by
 refine ⟨?m, ?h⟩
 case h => conv => lhs; cbv
def m41 : M := g41.m
def fn41 : MFn := ⟨25, [.tmp 4], m41, .shut⟩
theorem fnOk41 : FnOk Tryz.prog 41 fn41 := ⟨Tryz.f41, _, _, Tryz.func41, rfl, rfl, by kernel_rfl, by kernel_rfl, g41.h⟩
def g41_l0 : Got ((loopsM m41).getD 0 .bad) := by
 refine ⟨?m, ?h⟩
 case h => conv => lhs; cbv
def m41_l0 : M := g41_l0.m
theorem u41_l0 {C : Ctx} {k : List It} {st : St} {Q : Ex → St → Prop} : RunK C (.code m41_l0 :: k) st Q ↔ RunK C (.code g41_l0.m :: k) st Q := Iff.rfl
def g42 : Got (cmp 25 (kpL passing [] [[0, 1, 2, 3], [2, 3, 4, 5, 8], [8, 9]]) (bodyOf Tryz.f42)) := by
 refine ⟨?m, ?h⟩
 case h => conv => lhs; reduce
def m42 : M := g42.m
def fn42 : MFn := ⟨25, [.cell 8 83], m42, .shut⟩
theorem fnOk42 : FnOk Tryz.prog 42 fn42 := ⟨Tryz.f42, _, _, Tryz.func42, rfl, rfl, by kernel_rfl, by kernel_rfl, g42.h⟩
def g43 : Got (cmp 13 (kpL passing [] [[0], [0]]) (bodyOf Tryz.f43)) := by
 refine ⟨?m, ?h⟩
 case h => conv => lhs; cbv
def m43 : M := g43.m
def fn43 : MFn := ⟨13, [.tmp 2], m43, .shut⟩
theorem fnOk43 : FnOk Tryz.prog 43 fn43 := ⟨Tryz.f43, _, _, Tryz.func43, rfl, rfl, by kernel_rfl, by kernel_rfl, g43.h⟩
def g44 : Got (cmp 17 (kpL passing [] [[0], [0]]) (bodyOf Tryz.f44)) := by
 refine ⟨?m, ?h⟩
 case h => conv => lhs; cbv
def m44 : M := g44.m
def fn44 : MFn := ⟨17, [.tmp 2], m44, .shut⟩
theorem fnOk44 : FnOk Tryz.prog 44 fn44 := ⟨Tryz.f44, _, _, Tryz.func44, rfl, rfl, by kernel_rfl, by kernel_rfl, g44.h⟩
def g45 : Got (cmp 18 (kpL passing [] [[0, 1], [0, 1]]) (bodyOf Tryz.f45)) := by
 refine ⟨?m, ?h⟩
 case h => conv => lhs; cbv
def m45 : M := g45.m
def fn45 : MFn := ⟨18, [.tmp 4], m45, .shut⟩
theorem fnOk45 : FnOk Tryz.prog 45 fn45 := ⟨Tryz.f45, _, _, Tryz.func45, rfl, rfl, by kernel_rfl, by kernel_rfl, g45.h⟩
def g46 : Got (cmp 44 (kpL passing [] [[0, 1], [1, 2], [1, 2, 5], [1, 2, 5, 6], [1, 2, 5, 6], [1, 2, 5, 6], [1, 2, 5, 6, 7], [1, 2, 5, 6], [1, 2, 5, 6, 7], [1, 2, 5, 6], [5]]) (bodyOf Tryz.f46)) := by
 refine ⟨?m, ?h⟩
 case h => conv => lhs; cbv
def m46 : M := g46.m
def fn46 : MFn := ⟨44, [.tmp 4], m46, .shut⟩
theorem fnOk46 : FnOk Tryz.prog 46 fn46 := ⟨Tryz.f46, _, _, Tryz.func46, rfl, rfl, by kernel_rfl, by kernel_rfl, g46.h⟩
def g46_l0 : Got ((loopsM m46).getD 0 .bad) := by
 refine ⟨?m, ?h⟩
 case h => conv => lhs; cbv
def m46_l0 : M := g46_l0.m
theorem u46_l0 {C : Ctx} {k : List It} {st : St} {Q : Ex → St → Prop} : RunK C (.code m46_l0 :: k) st Q ↔ RunK C (.code g46_l0.m :: k) st Q := Iff.rfl
def g47 : Got (cmp 4 (kpL passing [] [[0], [0], [], []]) (bodyOf Tryz.f47)) := by
 refine ⟨?m, ?h⟩
 case h => conv => lhs; cbv
def m47 : M := g47.m
def fn47 : MFn := ⟨4, [.tmp 2], m47, .shut⟩
theorem fnOk47 : FnOk Tryz.prog 47 fn47 := ⟨Tryz.f47, _, _, Tryz.func47, rfl, rfl, by kernel_rfl, by kernel_rfl, g47.h⟩
def g48 : Got (cmp 74 (kpL passing [] [[0, 1, 2, 3, 4], [1, 2, 3, 4, 5], [1, 2, 3, 4, 5, 11], [1, 2, 3, 4, 5, 11, 12], [1, 2, 3, 4, 5, 11, 12], [1, 2, 3, 4, 5, 11, 12], [1, 2, 3, 4, 5, 11, 12, 13], [1, 2, 3, 4, 5, 11, 12], [11]]) (bodyOf Tryz.f48)) := by
 refine ⟨?m, ?h⟩
 case h => conv => lhs; cbv
def m48 : M := g48.m
def fn48 : MFn := ⟨74, [.tmp 10], m48, .shut⟩
theorem fnOk48 : FnOk Tryz.prog 48 fn48 := ⟨Tryz.f48, _, _, Tryz.func48, rfl, rfl, by kernel_rfl, by kernel_rfl, g48.h⟩
def g48_l0 : Got ((loopsM m48).getD 0 .bad) := by
 refine ⟨?m, ?h⟩
 case h => conv => lhs; cbv
def m48_l0 : M := g48_l0.m
theorem u48_l0 {C : Ctx} {k : List It} {st : St} {Q : Ex → St → Prop} : RunK C (.code m48_l0 :: k) st Q ↔ RunK C (.code g48_l0.m :: k) st Q := Iff.rfl
def g49 : Got (cmp 11 (kpL passing [] [[0, 1, 2], [1, 2, 3]]) (bodyOf Tryz.f49)) := by
 refine ⟨?m, ?h⟩
 case h => conv => lhs; cbv
def m49 : M := g49.m
def fn49 : MFn := ⟨11, [.tmp 6], m49, .shut⟩
theorem fnOk49 : FnOk Tryz.prog 49 fn49 := ⟨Tryz.f49, _, _, Tryz.func49, rfl, rfl, by kernel_rfl, by kernel_rfl, g49.h⟩
def g50 : Got (cmp 74 (kpL passing [2, 3, 4, 5, 6] [[0, 1], [2, 3, 4], [2, 3, 4, 5, 6], [2, 3, 4, 5, 6, 15, 16], [2, 3, 4, 5, 6, 7, 16], [2, 3, 4, 5, 6, 7, 8], [2, 4, 5, 6, 7, 9], [2, 4, 5, 6, 7, 9], [4], [6, 9], [9], [3, 4]]) (bodyOf Tryz.f50)) := by
 refine ⟨?m, ?h⟩
 case h => conv => lhs; reduce
def m50 : M := g50.m
def fn50 : MFn := ⟨74, [.cell 4 4], m50, .shut⟩
theorem fnOk50 : FnOk Tryz.prog 50 fn50 := ⟨Tryz.f50, _, _, Tryz.func50, rfl, rfl, by kernel_rfl, by kernel_rfl, g50.h⟩
def g50_l0 : Got ((loopsM m50).getD 0 .bad) := by
 refine ⟨?m, ?h⟩
 case h => conv => lhs; cbv
def m50_l0 : M := g50_l0.m
theorem u50_l0 {C : Ctx} {k : List It} {st : St} {Q : Ex → St → Prop} : RunK C (.code m50_l0 :: k) st Q ↔ RunK C (.code g50_l0.m :: k) st Q := Iff.rfl
def g50_l1 : Got ((loopsM m50).getD 1 .bad) := by
 refine ⟨?m, ?h⟩
 case h => conv => lhs; cbv
def m50_l1 : M := g50_l1.m
theorem u50_l1 {C : Ctx} {k : List It} {st : St} {Q : Ex → St → Prop} : RunK C (.code m50_l1 :: k) st Q ↔ RunK C (.code g50_l1.m :: k) st Q := Iff.rfl
def g51 : Got (cmp 42 (kpL passing [] [[0, 1], [2, 3], [2, 3, 8, 9], [2, 3, 8, 9], [2, 3, 5, 6, 8, 9], [2, 3, 6, 8, 9], [], [2, 3, 6, 8, 9], [], [2, 3, 8, 9], []]) (bodyOf Tryz.f51)) := by
 refine ⟨?m, ?h⟩
 case h => conv => lhs; cbv
def m51 : M := g51.m
def fn51 : MFn := ⟨42, [.tmp 4], m51, .shut⟩
theorem fnOk51 : FnOk Tryz.prog 51 fn51 := ⟨Tryz.f51, _, _, Tryz.func51, rfl, rfl, by kernel_rfl, by kernel_rfl, g51.h⟩
def g51_l0 : Got ((loopsM m51).getD 0 .bad) := by
 refine ⟨?m, ?h⟩
 case h => conv => lhs; cbv
def m51_l0 : M := g51_l0.m
theorem u51_l0 {C : Ctx} {k : List It} {st : St} {Q : Ex → St → Prop} : RunK C (.code m51_l0 :: k) st Q ↔ RunK C (.code g51_l0.m :: k) st Q := Iff.rfl
def g52 : Got (cmp 67 (kpL passing [] [[0], [1], [1, 3], [1, 3, 4], [1, 4, 5]]) (bodyOf Tryz.f52)) := by
 refine ⟨?m, ?h⟩
 case h => conv => lhs; cbv
def m52 : M := g52.m
def fn52 : MFn := ⟨67, [.tmp 2], m52, .shut⟩
theorem fnOk52 : FnOk Tryz.prog 52 fn52 := ⟨Tryz.f52, _, _, Tryz.func52, rfl, rfl, by kernel_rfl, by kernel_rfl, g52.h⟩
def g53 : Got (cmp 46 (kpL passing [] [[0], [1], [], [1]]) (bodyOf Tryz.f53)) := by
 refine ⟨?m, ?h⟩
 case h => conv => lhs; cbv
def m53 : M := g53.m
def fn53 : MFn := ⟨46, [.tmp 2], m53, .shut⟩
theorem fnOk53 : FnOk Tryz.prog 53 fn53 := ⟨Tryz.f53, _, _, Tryz.func53, rfl, rfl, by kernel_rfl, by kernel_rfl, g53.h⟩
def g54 : Got (cmp 50 (kpL passing [] [[0], [1], [1, 3], [1, 3], [1, 3], [1, 3], [1, 3], [1, 3], [1, 3], [1, 3], [1, 3]]) (bodyOf Tryz.f54)) := by
 refine ⟨?m, ?h⟩
 case h => conv => lhs; reduce
def m54 : M := g54.m
def fn54 : MFn := ⟨50, [.tmp 2], m54, .shut⟩
theorem fnOk54 : FnOk Tryz.prog 54 fn54 := ⟨Tryz.f54, _, _, Tryz.func54, rfl, rfl, by kernel_rfl, by kernel_rfl, g54.h⟩
def g55 : Got (cmp 10 (kpL passing [] [[0], [1, 2], [2], [1, 2]]) (bodyOf Tryz.f55)) := by
 refine ⟨?m, ?h⟩
 case h => conv => lhs; cbv
def m55 : M := g55.m
def fn55 : MFn := ⟨10, [.cell 2 127, .tmp 3], m55, .shut⟩
theorem fnOk55 : FnOk Tryz.prog 55 fn55 := ⟨Tryz.f55, _, _, Tryz.func55, rfl, rfl, by kernel_rfl, by kernel_rfl, g55.h⟩
def g56 : Got (cmp 11 (kpL passing [] [[0, 1], [1, 2]]) (bodyOf Tryz.f56)) := by
 refine ⟨?m, ?h⟩
 case h => conv => lhs; cbv
def m56 : M := g56.m
def fn56 : MFn := ⟨11, [.tmp 4], m56, .shut⟩
theorem fnOk56 : FnOk Tryz.prog 56 fn56 := ⟨Tryz.f56, _, _, Tryz.func56, rfl, rfl, by kernel_rfl, by kernel_rfl, g56.h⟩
def g57 : Got (cmp 57 (kpL passing [] [[0, 1], [1, 2], [], [1, 2], [1, 2, 9], [1, 2], [1, 2, 9], [1, 2], [2], [1, 2], [1, 2, 9], [1, 2], []]) (bodyOf Tryz.f57)) := by
 refine ⟨?m, ?h⟩
 case h => conv => lhs; reduce
def m57 : M := g57.m
def fn57 : MFn := ⟨57, [.tmp 4], m57, .shut⟩
theorem fnOk57 : FnOk Tryz.prog 57 fn57 := ⟨Tryz.f57, _, _, Tryz.func57, rfl, rfl, by kernel_rfl, by kernel_rfl, g57.h⟩
def g58 : Got (cmp 12 (kpL passing [] [[0, 1], [0, 1]]) (bodyOf Tryz.f58)) := by
 refine ⟨?m, ?h⟩
 case h => conv => lhs; cbv
def m58 : M := g58.m
def fn58 : MFn := ⟨12, [.tmp 4], m58, .shut⟩
theorem fnOk58 : FnOk Tryz.prog 58 fn58 := ⟨Tryz.f58, _, _, Tryz.func58, rfl, rfl, by kernel_rfl, by kernel_rfl, g58.h⟩
def g59 : Got (cmp 46 (kpL passing [] [[0, 1, 2], [2, 3, 4], [], [2, 3, 4], [2, 3, 4, 9], [2, 3, 4, 9, 10], [2, 3, 4, 9, 10], [2, 3, 4, 9, 10], [9, 10], [9]]) (bodyOf Tryz.f59)) := by
 refine ⟨?m, ?h⟩
 case h => conv => lhs; cbv
def m59 : M := g59.m
def fn59 : MFn := ⟨46, [.tmp 6, .tmp 7, .tmp 8], m59, .shut⟩
theorem fnOk59 : FnOk Tryz.prog 59 fn59 := ⟨Tryz.f59, _, _, Tryz.func59, rfl, rfl, by kernel_rfl, by kernel_rfl, g59.h⟩
def g59_l0 : Got ((loopsM m59).getD 0 .bad) := by
 refine ⟨?m, ?h⟩
 case h => conv => lhs; cbv
def m59_l0 : M := g59_l0.m
theorem u59_l0 {C : Ctx} {k : List It} {st : St} {Q : Ex → St → Prop} : RunK C (.code m59_l0 :: k) st Q ↔ RunK C (.code g59_l0.m :: k) st Q := Iff.rfl
def g60 : Got (cmp 78 (kpL passing [] [[0], [1], [], [1], [1], [1], [1, 3], [1, 3], [1, 3], [], [1, 3], [1, 3, 4], [1, 3, 4, 5], [1, 3, 4, 5], [1, 3, 4, 5], [1, 3, 4], [], [1]]) (bodyOf Tryz.f60)) := by
 refine ⟨?m, ?h⟩
 case h => conv => lhs; cbv
def m60 : M := g60.m
def fn60 : MFn := ⟨78, [.tmp 2], m60, .shut⟩
theorem fnOk60 : FnOk Tryz.prog 60 fn60 := ⟨Tryz.f60, _, _, Tryz.func60, rfl, rfl, by kernel_rfl, by kernel_rfl, g60.h⟩
def g60_l0 : Got ((loopsM m60).getD 0 .bad) := by
 refine ⟨?m, ?h⟩
 case h => conv => lhs; cbv
def m60_l0 : M := g60_l0.m
theorem u60_l0 {C : Ctx} {k : List It} {st : St} {Q : Ex → St → Prop} : RunK C (.code m60_l0 :: k) st Q ↔ RunK C (.code g60_l0.m :: k) st Q := Iff.rfl
def g60_l1 : Got ((loopsM m60).getD 1 .bad) := by
 refine ⟨?m, ?h⟩
 case h => conv => lhs; cbv
def m60_l1 : M := g60_l1.m
theorem u60_l1 {C : Ctx} {k : List It} {st : St} {Q : Ex → St → Prop} : RunK C (.code m60_l1 :: k) st Q ↔ RunK C (.code g60_l1.m :: k) st Q := Iff.rfl
def g61 : Got (cmp 17 (kpL passing [] [[0, 1], [1, 2], [], [1, 2]]) (bodyOf Tryz.f61)) := by
 refine ⟨?m, ?h⟩
 case h => conv => lhs; reduce
def m61 : M := g61.m
def fn61 : MFn := ⟨17, [.tmp 4], m61, .shut⟩
theorem fnOk61 : FnOk Tryz.prog 61 fn61 := ⟨Tryz.f61, _, _, Tryz.func61, rfl, rfl, by kernel_rfl, by kernel_rfl, g61.h⟩
def g62 : Got (cmp 14 (kpL passing [] [[0, 1], [1, 2]]) (bodyOf Tryz.f62)) := by
 refine ⟨?m, ?h⟩
 case h => conv => lhs; cbv
def m62 : M := g62.m
def fn62 : MFn := ⟨14, [.tmp 4], m62, .shut⟩
theorem fnOk62 : FnOk Tryz.prog 62 fn62 := ⟨Tryz.f62, _, _, Tryz.func62, rfl, rfl, by kernel_rfl, by kernel_rfl, g62.h⟩
def g63 : Got (cmp 9 (kpL passing [] [[0], [0]]) (bodyOf Tryz.f63)) := by
 refine ⟨?m, ?h⟩
 case h => conv => lhs; cbv
def m63 : M := g63.m
def fn63 : MFn := ⟨9, [.tmp 2], m63, .shut⟩
theorem fnOk63 : FnOk Tryz.prog 63 fn63 := ⟨Tryz.f63, _, _, Tryz.func63, rfl, rfl, by kernel_rfl, by kernel_rfl, g63.h⟩
def g64 : Got (cmp 9 (kpL passing [] [[0], [0]]) (bodyOf Tryz.f64)) := by
 refine ⟨?m, ?h⟩
 case h => conv => lhs; cbv
def m64 : M := g64.m
def fn64 : MFn := ⟨9, [.tmp 2], m64, .shut⟩
theorem fnOk64 : FnOk Tryz.prog 64 fn64 := ⟨Tryz.f64, _, _, Tryz.func64, rfl, rfl, by kernel_rfl, by kernel_rfl, g64.h⟩
def g65 : Got (cmp 26 (kpL passing [] [[0, 1], [0, 1], [0, 1, 6], [0, 1, 6, 7], [0, 1, 6, 7, 8], [0, 1, 6, 7, 8], [0, 1, 6, 7, 8], [0, 1, 6, 7, 8], [0, 1, 6, 7, 8], [6, 7]]) (bodyOf Tryz.f65)) := by
 refine ⟨?m, ?h⟩
 case h => conv => lhs; cbv
def m65 : M := g65.m
def fn65 : MFn := ⟨26, [.tmp 4, .tmp 5], m65, .shut⟩
theorem fnOk65 : FnOk Tryz.prog 65 fn65 := ⟨Tryz.f65, _, _, Tryz.func65, rfl, rfl, by kernel_rfl, by kernel_rfl, g65.h⟩
def g65_l0 : Got ((loopsM m65).getD 0 .bad) := by
 refine ⟨?m, ?h⟩
 case h => conv => lhs; cbv
def m65_l0 : M := g65_l0.m
theorem u65_l0 {C : Ctx} {k : List It} {st : St} {Q : Ex → St → Prop} : RunK C (.code m65_l0 :: k) st Q ↔ RunK C (.code g65_l0.m :: k) st Q := Iff.rfl
def g66 : Got (cmp 46 (kpL passing [] [[0], [0], [0, 3, 4, 5], [3, 4, 5, 11, 12, 13], [3, 4, 5, 11, 12, 13], [3, 4, 5, 7, 11, 12, 13], [3, 4, 5, 7, 11, 12, 13], [3, 4, 5, 7, 11, 12, 13], [3, 4, 5, 7, 11, 12, 13], [3, 4, 5, 7, 11, 12, 13], [3, 4, 5, 11, 12, 13], [3, 4, 5, 11, 12, 13], [3, 4, 5]]) (bodyOf Tryz.f66)) := by
 refine ⟨?m, ?h⟩
 case h => conv => lhs; cbv
def m66 : M := g66.m
def fn66 : MFn := ⟨46, [.tmp 2], m66, .pass⟩
theorem fnOk66 : FnOk Tryz.prog 66 fn66 := ⟨Tryz.f66, _, _, Tryz.func66, rfl, rfl, by kernel_rfl, by kernel_rfl, g66.h⟩
def g66_l0 : Got ((loopsM m66).getD 0 .bad) := by
 refine ⟨?m, ?h⟩
 case h => conv => lhs; cbv
def m66_l0 : M := g66_l0.m
theorem u66_l0 {C : Ctx} {k : List It} {st : St} {Q : Ex → St → Prop} : RunK C (.code m66_l0 :: k) st Q ↔ RunK C (.code g66_l0.m :: k) st Q := Iff.rfl
def g67 : Got (cmp 80 (kpL passing [] [[0], [0], [0, 3], [0, 3, 12, 13, 14], [0, 3, 12, 13, 14], [0, 3, 5, 12, 13, 14], [0, 3, 5, 12, 13, 14], [0, 3, 12, 13, 14], [0, 3], [], [0, 3], [0, 3], [0, 3], [0, 3], [3, 6], [3, 6], [3], [3, 68, 69, 70], [3, 68, 69, 70], [3, 8, 68, 69, 70], [], [3, 68, 69, 70], []]) (bodyOf Tryz.f67)) := by
 refine ⟨?m, ?h⟩
 case h => conv => lhs; reduce
def m67 : M := g67.m
def fn67 : MFn := ⟨80, [.tmp 2], m67, .pass⟩
theorem fnOk67 : FnOk Tryz.prog 67 fn67 := ⟨Tryz.f67, _, _, Tryz.func67, rfl, rfl, by kernel_rfl, by kernel_rfl, g67.h⟩
def g67_l0 : Got ((loopsM m67).getD 0 .bad) := by
 refine ⟨?m, ?h⟩
 case h => conv => lhs; cbv
def m67_l0 : M := g67_l0.m
theorem u67_l0 {C : Ctx} {k : List It} {st : St} {Q : Ex → St → Prop} : RunK C (.code m67_l0 :: k) st Q ↔ RunK C (.code g67_l0.m :: k) st Q := Iff.rfl
def g67_l1 : Got ((loopsM m67).getD 1 .bad) := by
 refine ⟨?m, ?h⟩
 case h => conv => lhs; cbv
def m67_l1 : M := g67_l1.m
theorem u67_l1 {C : Ctx} {k : List It} {st : St} {Q : Ex → St → Prop} : RunK C (.code m67_l1 :: k) st Q ↔ RunK C (.code g67_l1.m :: k) st Q := Iff.rfl
def g68 : Got (cmp 97 (kpL passing [] [[0], [0], [0, 3], [], [0, 3], [0, 3], [], [0, 3], [0, 3, 4], [], [0, 3, 17], [0, 3, 17], [0, 3], [], [0, 3], [0, 3, 5], [3, 5, 54, 55, 56], [3, 5, 54, 55, 56], [3, 5, 6, 7, 54, 55, 56], [3, 5, 6, 7, 54, 55, 56], [3, 5, 6, 7, 8, 54, 55, 56], [3, 5, 6, 7, 8, 54, 55, 56], [3, 5, 6, 7, 8, 54, 55, 56], [3, 5, 6, 7, 54, 55, 56], [], [3, 5, 54, 55, 56], []]) (bodyOf Tryz.f68)) := by
 refine ⟨?m, ?h⟩
 case h => conv => lhs; reduce
def m68 : M := g68.m
def fn68 : MFn := ⟨97, [.tmp 2], m68, .pass⟩
theorem fnOk68 : FnOk Tryz.prog 68 fn68 := ⟨Tryz.f68, _, _, Tryz.func68, rfl, rfl, by kernel_rfl, by kernel_rfl, g68.h⟩
def g68_l0 : Got ((loopsM m68).getD 0 .bad) := by
 refine ⟨?m, ?h⟩
 case h => conv => lhs; cbv
def m68_l0 : M := g68_l0.m
theorem u68_l0 {C : Ctx} {k : List It} {st : St} {Q : Ex → St → Prop} : RunK C (.code m68_l0 :: k) st Q ↔ RunK C (.code g68_l0.m :: k) st Q := Iff.rfl
def g69 : Got (cmp 80 (kpL passing [] [[0], [0], [0, 12, 13], [0, 12, 13], [0, 3, 12, 13], [], [0, 12, 13], [0], [0, 4], [0, 4, 39, 40, 41], [0, 4, 39, 40, 41], [0, 4, 6, 39, 40, 41], [0, 4, 39, 40, 41], [0, 4, 39, 40, 41], [0, 4], [0, 7], [], [0], [0], [0]]) (bodyOf Tryz.f69)) := by
 refine ⟨?m, ?h⟩
 case h => conv => lhs; cbv
def m69 : M := g69.m
def fn69 : MFn := ⟨80, [.tmp 2], m69, .pass⟩
theorem fnOk69 : FnOk Tryz.prog 69 fn69 := ⟨Tryz.f69, _, _, Tryz.func69, rfl, rfl, by kernel_rfl, by kernel_rfl, g69.h⟩
def g69_l0 : Got ((loopsM m69).getD 0 .bad) := by
 refine ⟨?m, ?h⟩
 case h => conv => lhs; cbv
def m69_l0 : M := g69_l0.m
theorem u69_l0 {C : Ctx} {k : List It} {st : St} {Q : Ex → St → Prop} : RunK C (.code m69_l0 :: k) st Q ↔ RunK C (.code g69_l0.m :: k) st Q := Iff.rfl
def g69_l1 : Got ((loopsM m69).getD 1 .bad) := by
 refine ⟨?m, ?h⟩
 case h => conv => lhs; cbv
def m69_l1 : M := g69_l1.m
theorem u69_l1 {C : Ctx} {k : List It} {st : St} {Q : Ex → St → Prop} : RunK C (.code m69_l1 :: k) st Q ↔ RunK C (.code g69_l1.m :: k) st Q := Iff.rfl
def g70 : Got (cmp 10 (kpL passing [] [[0], [0], [3], [], [3], [], [3], [], []]) (bodyOf Tryz.f70)) := by
 refine ⟨?m, ?h⟩
 case h => conv => lhs; cbv
def m70 : M := g70.m
def fn70 : MFn := ⟨10, [.tmp 2], m70, .shut⟩
theorem fnOk70 : FnOk Tryz.prog 70 fn70 := ⟨Tryz.f70, _, _, Tryz.func70, rfl, rfl, by kernel_rfl, by kernel_rfl, g70.h⟩
def g71 : Got (cmp 57 (kpL passing [2, 3, 4, 5, 6] [[0], [0, 2, 3, 4], [2, 3, 4], [0, 2, 3, 4], [0, 2, 3, 4, 5], [0, 2, 3, 4, 5, 6], [2, 3, 4, 5, 6, 17, 18], [2, 3, 4, 5, 6, 7, 18], [2, 3, 4, 5, 6, 7, 8], [2, 3, 4, 5, 7, 8], [2, 3, 4, 7], [5, 8], [2, 3, 4, 5, 6, 7, 8], [2, 3, 4, 7, 9], [2, 3, 4, 7, 9], [2, 3, 4, 5], [2, 3, 4], [2, 3, 4, 5]]) (bodyOf Tryz.f71)) := by
 refine ⟨?m, ?h⟩
 case h => conv => lhs; reduce
def m71 : M := g71.m
def fn71 : MFn := ⟨57, [.cell 2 42, .cell 3 3, .cell 4 100], m71, .shut⟩
theorem fnOk71 : FnOk Tryz.prog 71 fn71 := ⟨Tryz.f71, _, _, Tryz.func71, rfl, rfl, by kernel_rfl, by kernel_rfl, g71.h⟩
def g72 : Got (cmp 12 (kpL passing [] [[0], [0]]) (bodyOf Tryz.f72)) := by
 refine ⟨?m, ?h⟩
 case h => conv => lhs; cbv
def m72 : M := g72.m
def fn72 : MFn := ⟨12, [.tmp 2], m72, .shut⟩
theorem fnOk72 : FnOk Tryz.prog 72 fn72 := ⟨Tryz.f72, _, _, Tryz.func72, rfl, rfl, by kernel_rfl, by kernel_rfl, g72.h⟩
def g73 : Got (cmp 40 (kpL passing [] [[0, 1], [0, 1], [0, 1, 13, 14, 15], [0, 1, 13, 14, 15], [0, 1, 6, 13, 14, 15], [0, 1, 7, 8, 13, 14, 15], [8], [0, 1, 7, 13, 14, 15], [0, 1, 13, 14, 15], []]) (bodyOf Tryz.f73)) := by
 refine ⟨?m, ?h⟩
 case h => conv => lhs; reduce
def m73 : M := g73.m
def fn73 : MFn := ⟨40, [.tmp 4], m73, .pass⟩
theorem fnOk73 : FnOk Tryz.prog 73 fn73 := ⟨Tryz.f73, _, _, Tryz.func73, rfl, rfl, by kernel_rfl, by kernel_rfl, g73.h⟩
def g73_l0 : Got ((loopsM m73).getD 0 .bad) := by
 refine ⟨?m, ?h⟩
 case h => conv => lhs; cbv
def m73_l0 : M := g73_l0.m
theorem u73_l0 {C : Ctx} {k : List It} {st : St} {Q : Ex → St → Prop} : RunK C (.code m73_l0 :: k) st Q ↔ RunK C (.code g73_l0.m :: k) st Q := Iff.rfl
def g74 : Got (cmp 8 (kpL passing [] [[0, 1], [1, 2], [], []]) (bodyOf Tryz.f74)) := by
 refine ⟨?m, ?h⟩
 case h => conv => lhs; cbv
def m74 : M := g74.m
def fn74 : MFn := ⟨8, [.tmp 3], m74, .pass⟩
theorem fnOk74 : FnOk Tryz.prog 74 fn74 := ⟨Tryz.f74, _, _, Tryz.func74, rfl, rfl, by kernel_rfl, by kernel_rfl, g74.h⟩
def g75 : Got (cmp 35 (kpL passing [] [[0, 1], [0, 3], [], [0, 3], [0, 23], [0, 23], [0, 23], [0, 23], [0, 23], [0, 23], [], [0, 23], [0], []]) (bodyOf Tryz.f75)) := by
 refine ⟨?m, ?h⟩
 case h => conv => lhs; cbv
def m75 : M := g75.m
def fn75 : MFn := ⟨35, [.tmp 4], m75, .shut⟩
theorem fnOk75 : FnOk Tryz.prog 75 fn75 := ⟨Tryz.f75, _, _, Tryz.func75, rfl, rfl, by kernel_rfl, by kernel_rfl, g75.h⟩
def g76 : Got (cmp 61 (kpL passing [] [[0], [1], [1, 3]]) (bodyOf Tryz.f76)) := by
 refine ⟨?m, ?h⟩
 case h => conv => lhs; cbv
def m76 : M := g76.m
def fn76 : MFn := ⟨61, [.tmp 2], m76, .shut⟩
theorem fnOk76 : FnOk Tryz.prog 76 fn76 := ⟨Tryz.f76, _, _, Tryz.func76, rfl, rfl, by kernel_rfl, by kernel_rfl, g76.h⟩
def g77 : Got (cmp 2 (kpL passing [] [[], [0]]) (bodyOf Tryz.f77)) := by
 refine ⟨?m, ?h⟩
 case h => conv => lhs; cbv
def m77 : M := g77.m
def fn77 : MFn := ⟨2, [.cell 0 155], m77, .pass⟩
theorem fnOk77 : FnOk Tryz.prog 77 fn77 := ⟨Tryz.f77, _, _, Tryz.func77, rfl, rfl, by kernel_rfl, by kernel_rfl, g77.h⟩
def g78 : Got (cmp 17 (kpL passing [] [[0, 1], [1, 2, 4], [4, 5, 6], [4], [4, 5]]) (bodyOf Tryz.f78)) := by
 refine ⟨?m, ?h⟩
 case h => conv => lhs; cbv
def m78 : M := g78.m
def fn78 : MFn := ⟨17, [.cell 4 90], m78, .pass⟩
theorem fnOk78 : FnOk Tryz.prog 78 fn78 := ⟨Tryz.f78, _, _, Tryz.func78, rfl, rfl, by kernel_rfl, by kernel_rfl, g78.h⟩
def g79 : Got (cmp 25 (kpL passing [7] [[0, 1], [1, 2, 4], [1, 4, 5, 6], [], [1, 4, 5], [1, 4, 5, 7], [7, 19], [7, 8], [7]]) (bodyOf Tryz.f79)) := by
 refine ⟨?m, ?h⟩
 case h => conv => lhs; reduce
def m79 : M := g79.m
def fn79 : MFn := ⟨25, [.tmp 4], m79, .shut⟩
theorem fnOk79 : FnOk Tryz.prog 79 fn79 := ⟨Tryz.f79, _, _, Tryz.func79, rfl, rfl, by kernel_rfl, by kernel_rfl, g79.h⟩
def g80 : Got (cmp 23 (kpL passing [] [[0, 1, 2, 3], [2, 3, 4, 5, 8], [2, 3, 5, 8, 9, 10], [2, 3, 5, 8, 9], [5, 8]]) (bodyOf Tryz.f80)) := by
 refine ⟨?m, ?h⟩
 case h => conv => lhs; cbv
def m80 : M := g80.m
def fn80 : MFn := ⟨23, [.cell 8 63], m80, .shut⟩
theorem fnOk80 : FnOk Tryz.prog 80 fn80 := ⟨Tryz.f80, _, _, Tryz.func80, rfl, rfl, by kernel_rfl, by kernel_rfl, g80.h⟩
def g81 : Got (cmp 12 (kpL passing [] [[0, 1, 2], [0, 1, 5, 6]]) (bodyOf Tryz.f81)) := by
 refine ⟨?m, ?h⟩
 case h => conv => lhs; reduce
def m81 : M := g81.m
def fn81 : MFn := ⟨12, [.cell 6 65], m81, .pass⟩
theorem fnOk81 : FnOk Tryz.prog 81 fn81 := ⟨Tryz.f81, _, _, Tryz.func81, rfl, rfl, by kernel_rfl, by kernel_rfl, g81.h⟩
def g82 : Got (cmp 29 (kpL passing [] [[0, 1, 2], [2, 3, 4], [], [2, 3, 4], [2, 4, 9], [2, 4, 6, 9], [6, 7, 8]]) (bodyOf Tryz.f82)) := by
 refine ⟨?m, ?h⟩
 case h => conv => lhs; reduce
def m82 : M := g82.m
def fn82 : MFn := ⟨29, [.tmp 6, .tmp 7, .tmp 8], m82, .shut⟩
theorem fnOk82 : FnOk Tryz.prog 82 fn82 := ⟨Tryz.f82, _, _, Tryz.func82, rfl, rfl, by kernel_rfl, by kernel_rfl, g82.h⟩
def g83 : Got (cmp 13 (kpL passing [] [[0, 1], [1, 2], [], [1, 2]]) (bodyOf Tryz.f83)) := by
 refine ⟨?m, ?h⟩
 case h => conv => lhs; cbv
def m83 : M := g83.m
def fn83 : MFn := ⟨13, [.tmp 4], m83, .shut⟩
theorem fnOk83 : FnOk Tryz.prog 83 fn83 := ⟨Tryz.f83, _, _, Tryz.func83, rfl, rfl, by kernel_rfl, by kernel_rfl, g83.h⟩
def g84 : Got (cmp 28 (kpL passing [] [[0, 1, 2], [2, 3, 4, 6], [4, 6, 8, 9, 10], [6], [4, 6, 8, 9]]) (bodyOf Tryz.f84)) := by
 refine ⟨?m, ?h⟩
 case h => conv => lhs; cbv
def m84 : M := g84.m
def fn84 : MFn := ⟨28, [.cell 6 83, .tmp 7], m84, .shut⟩
theorem fnOk84 : FnOk Tryz.prog 84 fn84 := ⟨Tryz.f84, _, _, Tryz.func84, rfl, rfl, by kernel_rfl, by kernel_rfl, g84.h⟩
def g85 : Got (cmp 4 (kpL passing [] [[0], [1]]) (bodyOf Tryz.f85)) := by
 refine ⟨?m, ?h⟩
 case h => conv => lhs; cbv
def m85 : M := g85.m
def fn85 : MFn := ⟨4, [.tmp 2], m85, .shut⟩
theorem fnOk85 : FnOk Tryz.prog 85 fn85 := ⟨Tryz.f85, _, _, Tryz.func85, rfl, rfl, by kernel_rfl, by kernel_rfl, g85.h⟩
def g86 : Got (cmp 6 (kpL passing [] [[0], [1]]) (bodyOf Tryz.f86)) := by
 refine ⟨?m, ?h⟩
 case h => conv => lhs; cbv
def m86 : M := g86.m
def fn86 : MFn := ⟨6, [.tmp 2], m86, .shut⟩
theorem fnOk86 : FnOk Tryz.prog 86 fn86 := ⟨Tryz.f86, _, _, Tryz.func86, rfl, rfl, by kernel_rfl, by kernel_rfl, g86.h⟩
def g87 : Got (cmp 10 (kpL passing [] [[0, 1], [1, 2]]) (bodyOf Tryz.f87)) := by
 refine ⟨?m, ?h⟩
 case h => conv => lhs; cbv
def m87 : M := g87.m
def fn87 : MFn := ⟨10, [.tmp 4], m87, .shut⟩
theorem fnOk87 : FnOk Tryz.prog 87 fn87 := ⟨Tryz.f87, _, _, Tryz.func87, rfl, rfl, by kernel_rfl, by kernel_rfl, g87.h⟩
def g88 : Got (cmp 35 (kpL passing [] [[0], [1], [], [1], [1, 12], [1], [1, 12], [1, 12], [1, 12], [1], []]) (bodyOf Tryz.f88)) := by
 refine ⟨?m, ?h⟩
 case h => conv => lhs; cbv
def m88 : M := g88.m
def fn88 : MFn := ⟨35, [.tmp 2], m88, .shut⟩
theorem fnOk88 : FnOk Tryz.prog 88 fn88 := ⟨Tryz.f88, _, _, Tryz.func88, rfl, rfl, by kernel_rfl, by kernel_rfl, g88.h⟩
def g89 : Got (cmp 25 (kpL passing [] [[0, 1], [1, 2], [1, 5, 6], [], [1, 5]]) (bodyOf Tryz.f89)) := by
 refine ⟨?m, ?h⟩
 case h => conv => lhs; reduce
def m89 : M := g89.m
def fn89 : MFn := ⟨25, [.tmp 4], m89, .shut⟩
theorem fnOk89 : FnOk Tryz.prog 89 fn89 := ⟨Tryz.f89, _, _, Tryz.func89, rfl, rfl, by kernel_rfl, by kernel_rfl, g89.h⟩
def g90 : Got (cmp 10 (kpL passing [] [[0, 1], [1, 2]]) (bodyOf Tryz.f90)) := by
 refine ⟨?m, ?h⟩
 case h => conv => lhs; cbv
def m90 : M := g90.m
def fn90 : MFn := ⟨10, [.tmp 4], m90, .shut⟩
theorem fnOk90 : FnOk Tryz.prog 90 fn90 := ⟨Tryz.f90, _, _, Tryz.func90, rfl, rfl, by kernel_rfl, by kernel_rfl, g90.h⟩
def g91 : Got (cmp 22 (kpL passing [] [[0, 1], [1, 2], [1, 5, 6]]) (bodyOf Tryz.f91)) := by
 refine ⟨?m, ?h⟩
 case h => conv => lhs; cbv
def m91 : M := g91.m
def fn91 : MFn := ⟨22, [.tmp 4], m91, .shut⟩
theorem fnOk91 : FnOk Tryz.prog 91 fn91 := ⟨Tryz.f91, _, _, Tryz.func91, rfl, rfl, by kernel_rfl, by kernel_rfl, g91.h⟩
def g92 : Got (cmp 9 (kpL passing [] [[0], [0]]) (bodyOf Tryz.f92)) := by
 refine ⟨?m, ?h⟩
 case h => conv => lhs; cbv
def m92 : M := g92.m
def fn92 : MFn := ⟨9, [.tmp 2], m92, .shut⟩
theorem fnOk92 : FnOk Tryz.prog 92 fn92 := ⟨Tryz.f92, _, _, Tryz.func92, rfl, rfl, by kernel_rfl, by kernel_rfl, g92.h⟩
def g93 : Got (cmp 6 (kpL passing [] [[0], [0]]) (bodyOf Tryz.f93)) := by
 refine ⟨?m, ?h⟩
 case h => conv => lhs; cbv
def m93 : M := g93.m
def fn93 : MFn := ⟨6, [.tmp 2], m93, .shut⟩
theorem fnOk93 : FnOk Tryz.prog 93 fn93 := ⟨Tryz.f93, _, _, Tryz.func93, rfl, rfl, by kernel_rfl, by kernel_rfl, g93.h⟩
def g94 : Got (cmp 35 (kpL passing [] [[0], [0], [0], [0], [0], [0], [0], [0]]) (bodyOf Tryz.f94)) := by
 refine ⟨?m, ?h⟩
 case h => conv => lhs; cbv
def m94 : M := g94.m
def fn94 : MFn := ⟨35, [.tmp 2], m94, .shut⟩
theorem fnOk94 : FnOk Tryz.prog 94 fn94 := ⟨Tryz.f94, _, _, Tryz.func94, rfl, rfl, by kernel_rfl, by kernel_rfl, g94.h⟩
def g95 : Got (cmp 13 (kpL passing [] [[0, 1], [1, 2], [], [1, 2]]) (bodyOf Tryz.f95)) := by
 refine ⟨?m, ?h⟩
 case h => conv => lhs; cbv
def m95 : M := g95.m
def fn95 : MFn := ⟨13, [.tmp 4], m95, .shut⟩
theorem fnOk95 : FnOk Tryz.prog 95 fn95 := ⟨Tryz.f95, _, _, Tryz.func95, rfl, rfl, by kernel_rfl, by kernel_rfl, g95.h⟩
def g96 : Got (cmp 12 (kpL passing [] [[0], [1], [4], [4], [4], [4], [4], [4], [], []]) (bodyOf Tryz.f96)) := by
 refine ⟨?m, ?h⟩
 case h => conv => lhs; cbv
def m96 : M := g96.m
def fn96 : MFn := ⟨12, [.tmp 2], m96, .shut⟩
theorem fnOk96 : FnOk Tryz.prog 96 fn96 := ⟨Tryz.f96, _, _, Tryz.func96, rfl, rfl, by kernel_rfl, by kernel_rfl, g96.h⟩
def g97 : Got (cmp 10 (kpL passing [] [[0], [1], [4], [4], [4], [4], [], []]) (bodyOf Tryz.f97)) := by
 refine ⟨?m, ?h⟩
 case h => conv => lhs; cbv
def m97 : M := g97.m
def fn97 : MFn := ⟨10, [.tmp 2], m97, .shut⟩
theorem fnOk97 : FnOk Tryz.prog 97 fn97 := ⟨Tryz.f97, _, _, Tryz.func97, rfl, rfl, by kernel_rfl, by kernel_rfl, g97.h⟩
def g98 : Got (cmp 45 (kpL passing [6] [[0, 1], [1, 2, 4], [], [1, 2, 4], [2, 4, 5], [5], [2, 4, 5], [2, 5], [2, 4, 5], [2, 4, 5, 6], [6, 36], [6, 7], [5, 6]]) (bodyOf Tryz.f98)) := by
 refine ⟨?m, ?h⟩
 case h => conv => lhs; reduce
def m98 : M := g98.m
def fn98 : MFn := ⟨45, [.tmp 4], m98, .shut⟩
theorem fnOk98 : FnOk Tryz.prog 98 fn98 := ⟨Tryz.f98, _, _, Tryz.func98, rfl, rfl, by kernel_rfl, by kernel_rfl, g98.h⟩
def g98_l0 : Got ((loopsM m98).getD 0 .bad) := by
 refine ⟨?m, ?h⟩
 case h => conv => lhs; cbv
def m98_l0 : M := g98_l0.m
theorem u98_l0 {C : Ctx} {k : List It} {st : St} {Q : Ex → St → Prop} : RunK C (.code m98_l0 :: k) st Q ↔ RunK C (.code g98_l0.m :: k) st Q := Iff.rfl
def g98_l1 : Got ((loopsM m98).getD 1 .bad) := by
 refine ⟨?m, ?h⟩
 case h => conv => lhs; cbv
def m98_l1 : M := g98_l1.m
theorem u98_l1 {C : Ctx} {k : List It} {st : St} {Q : Ex → St → Prop} : RunK C (.code m98_l1 :: k) st Q ↔ RunK C (.code g98_l1.m :: k) st Q := Iff.rfl
def g99 : Got (cmp 61 (kpL passing [] [[0, 1], [0, 3], [0, 3, 5], [0, 3, 5, 20, 21, 22], [0, 3, 5, 20, 21, 22], [0, 3, 5, 7, 20, 21, 22], [0, 3, 5, 7, 20, 21, 22], [0, 3, 5, 7, 20, 21, 22], [0, 3, 5, 20, 21, 22], [0, 3, 5]]) (bodyOf Tryz.f99)) := by
 refine ⟨?m, ?h⟩
 case h => conv => lhs; reduce
def m99 : M := g99.m
def fn99 : MFn := ⟨61, [.tmp 4], m99, .pass⟩
theorem fnOk99 : FnOk Tryz.prog 99 fn99 := ⟨Tryz.f99, _, _, Tryz.func99, rfl, rfl, by kernel_rfl, by kernel_rfl, g99.h⟩
def g99_l0 : Got ((loopsM m99).getD 0 .bad) := by
 refine ⟨?m, ?h⟩
 case h => conv => lhs; cbv
def m99_l0 : M := g99_l0.m
theorem u99_l0 {C : Ctx} {k : List It} {st : St} {Q : Ex → St → Prop} : RunK C (.code m99_l0 :: k) st Q ↔ RunK C (.code g99_l0.m :: k) st Q := Iff.rfl
def g100 : Got (cmp 25 (kpL passing [] [[0, 1], [0, 3], [0, 3, 5]]) (bodyOf Tryz.f100)) := by
 refine ⟨?m, ?h⟩
 case h => conv => lhs; reduce
def m100 : M := g100.m
def fn100 : MFn := ⟨25, [.tmp 4], m100, .pass⟩
theorem fnOk100 : FnOk Tryz.prog 100 fn100 := ⟨Tryz.f100, _, _, Tryz.func100, rfl, rfl, by kernel_rfl, by kernel_rfl, g100.h⟩
def g101 : Got (cmp 65 (kpL passing [] [[0, 1], [2, 3], [2, 3, 5], [2, 3, 5, 6], [2, 3, 5, 6, 7, 8], [5, 6, 7, 8, 38], [5, 6, 8], [5, 6, 7, 8, 38], [5, 6, 7, 8, 38], [5, 6, 7, 8, 38], [5, 6, 7], [5, 6, 7, 8, 38], [5, 6, 7, 8], [], [5, 7, 8]]) (bodyOf Tryz.f101)) := by
 refine ⟨?m, ?h⟩
 case h => conv => lhs; reduce
def m101 : M := g101.m
def fn101 : MFn := ⟨65, [.tmp 4], m101, .pass⟩
theorem fnOk101 : FnOk Tryz.prog 101 fn101 := ⟨Tryz.f101, _, _, Tryz.func101, rfl, rfl, by kernel_rfl, by kernel_rfl, g101.h⟩
def g102 : Got (cmp 8 (kpL passing [] [[0, 1], [0, 3]]) (bodyOf Tryz.f102)) := by
 refine ⟨?m, ?h⟩
 case h => conv => lhs; cbv
def m102 : M := g102.m
def fn102 : MFn := ⟨8, [.tmp 4], m102, .pass⟩
theorem fnOk102 : FnOk Tryz.prog 102 fn102 := ⟨Tryz.f102, _, _, Tryz.func102, rfl, rfl, by kernel_rfl, by kernel_rfl, g102.h⟩
def g103 : Got (cmp 4 (kpL passing [] [[0], [0], [], []]) (bodyOf Tryz.f103)) := by
 refine ⟨?m, ?h⟩
 case h => conv => lhs; cbv
def m103 : M := g103.m
def fn103 : MFn := ⟨4, [.tmp 2], m103, .shut⟩
theorem fnOk103 : FnOk Tryz.prog 103 fn103 := ⟨Tryz.f103, _, _, Tryz.func103, rfl, rfl, by kernel_rfl, by kernel_rfl, g103.h⟩
def g104 : Got (cmp 8 (kpL passing [] [[], [], [1]]) (bodyOf Tryz.f104)) := by
 refine ⟨?m, ?h⟩
 case h => conv => lhs; cbv
def m104 : M := g104.m
def fn104 : MFn := ⟨8, [.tmp 0], m104, .shut⟩
theorem fnOk104 : FnOk Tryz.prog 104 fn104 := ⟨Tryz.f104, _, _, Tryz.func104, rfl, rfl, by kernel_rfl, by kernel_rfl, g104.h⟩
def g105 : Got (cmp 5 (kpL passing [] [[0], [1], [1, 3]]) (bodyOf Tryz.f105)) := by
 refine ⟨?m, ?h⟩
 case h => conv => lhs; cbv
def m105 : M := g105.m
def fn105 : MFn := ⟨5, [.tmp 2], m105, .pass⟩
theorem fnOk105 : FnOk Tryz.prog 105 fn105 := ⟨Tryz.f105, _, _, Tryz.func105, rfl, rfl, by kernel_rfl, by kernel_rfl, g105.h⟩
def g106 : Got (cmp 32 (kpL passing [] [[0], [0], [], [0], [0, 14, 15], [0, 14, 15], [0, 3, 14, 15], [0, 4, 14, 15], [], [0, 14, 15], []]) (bodyOf Tryz.f106)) := by
 refine ⟨?m, ?h⟩
 case h => conv => lhs; cbv
def m106 : M := g106.m
def fn106 : MFn := ⟨32, [.tmp 2], m106, .shut⟩
theorem fnOk106 : FnOk Tryz.prog 106 fn106 := ⟨Tryz.f106, _, _, Tryz.func106, rfl, rfl, by kernel_rfl, by kernel_rfl, g106.h⟩
def g107 : Got (cmp 51 (kpL passing [] [[0, 1, 2], [0, 1, 2], [0, 1, 7], [0, 1, 7, 8, 9], [], [0, 1, 7, 8], [0, 7, 8, 9, 10], [], [0, 7, 8, 10], [0, 8, 9, 11], [], [0, 8, 11], [], [0, 8, 11], []]) (bodyOf Tryz.f107)) := by
 refine ⟨?m, ?h⟩
 case h => conv => lhs; reduce
def m107 : M := g107.m
def fn107 : MFn := ⟨51, [.tmp 6], m107, .trim⟩
theorem fnOk107 : FnOk Tryz.prog 107 fn107 := ⟨Tryz.f107, _, _, Tryz.func107, rfl, rfl, by kernel_rfl, by kernel_rfl, g107.h⟩
def g108 : Got (cmp 3 (kpL passing [] [[], []]) (bodyOf Tryz.f108)) := by
 refine ⟨?m, ?h⟩
 case h => conv => lhs; cbv
def m108 : M := g108.m
def fn108 : MFn := ⟨3, [.tmp 0], m108, .shut⟩
theorem fnOk108 : FnOk Tryz.prog 108 fn108 := ⟨Tryz.f108, _, _, Tryz.func108, rfl, rfl, by kernel_rfl, by kernel_rfl, g108.h⟩
def g109 : Got (cmp 22 (kpL passing [3] [[0], [1, 2], [], [1, 2], [1, 2, 3], [3, 10, 11], [3, 4, 11], [3, 4, 5], [3, 4], [3]]) (bodyOf Tryz.f109)) := by
 refine ⟨?m, ?h⟩
 case h => conv => lhs; reduce
def m109 : M := g109.m
def fn109 : MFn := ⟨22, [.tmp 2], m109, .shut⟩
theorem fnOk109 : FnOk Tryz.prog 109 fn109 := ⟨Tryz.f109, _, _, Tryz.func109, rfl, rfl, by kernel_rfl, by kernel_rfl, g109.h⟩
def g110 : Got (cmp 21 (kpL passing [3, 4, 5, 6, 7] [[0, 1, 2], [3, 4, 5, 6, 7], [3, 4, 5, 6, 7, 11, 12], [3, 4, 5, 6, 7, 8, 12], [3, 4, 5, 6, 7, 8, 9], [3, 5, 6, 7, 9], [3, 6, 7], [6, 7]]) (bodyOf Tryz.f110)) := by
 refine ⟨?m, ?h⟩
 case h => conv => lhs; reduce
def m110 : M := g110.m
def fn110 : MFn := ⟨21, [.cell 6 42, .cell 7 100], m110, .shut⟩
theorem fnOk110 : FnOk Tryz.prog 110 fn110 := ⟨Tryz.f110, _, _, Tryz.func110, rfl, rfl, by kernel_rfl, by kernel_rfl, g110.h⟩
def g110_l0 : Got ((loopsM m110).getD 0 .bad) := by
 refine ⟨?m, ?h⟩
 case h => conv => lhs; cbv
def m110_l0 : M := g110_l0.m
theorem u110_l0 {C : Ctx} {k : List It} {st : St} {Q : Ex → St → Prop} : RunK C (.code m110_l0 :: k) st Q ↔ RunK C (.code g110_l0.m :: k) st Q := Iff.rfl
def g110_l1 : Got ((loopsM m110).getD 1 .bad) := by
 refine ⟨?m, ?h⟩
 case h => conv => lhs; cbv
def m110_l1 : M := g110_l1.m
theorem u110_l1 {C : Ctx} {k : List It} {st : St} {Q : Ex → St → Prop} : RunK C (.code m110_l1 :: k) st Q ↔ RunK C (.code g110_l1.m :: k) st Q := Iff.rfl
def g111 : Got (cmp 15 (kpL passing [] [[0, 1, 2], [0, 1, 2]]) (bodyOf Tryz.f111)) := by
 refine ⟨?m, ?h⟩
 case h => conv => lhs; cbv
def m111 : M := g111.m
def fn111 : MFn := ⟨15, [.tmp 6], m111, .pass⟩
theorem fnOk111 : FnOk Tryz.prog 111 fn111 := ⟨Tryz.f111, _, _, Tryz.func111, rfl, rfl, by kernel_rfl, by kernel_rfl, g111.h⟩
def g112 : Got (cmp 18 (kpL passing [] [[0], [1], [5, 6, 7], [5, 6, 7], [4, 5, 6, 7], [4], [5, 6, 7], []]) (bodyOf Tryz.f112)) := by
 refine ⟨?m, ?h⟩
 case h => conv => lhs; cbv
def m112 : M := g112.m
def fn112 : MFn := ⟨18, [.tmp 2], m112, .shut⟩
theorem fnOk112 : FnOk Tryz.prog 112 fn112 := ⟨Tryz.f112, _, _, Tryz.func112, rfl, rfl, by kernel_rfl, by kernel_rfl, g112.h⟩
def g113 : Got (cmp 18 (kpL passing [1, 2] [[0], [1, 2], [2], [1, 2], [1, 2, 9], [1, 2, 3], [2], [2]]) (bodyOf Tryz.f113)) := by
 refine ⟨?m, ?h⟩
 case h => conv => lhs; reduce
def m113 : M := g113.m
def fn113 : MFn := ⟨18, [.cell 2 4], m113, .shut⟩
theorem fnOk113 : FnOk Tryz.prog 113 fn113 := ⟨Tryz.f113, _, _, Tryz.func113, rfl, rfl, by kernel_rfl, by kernel_rfl, g113.h⟩
def g114 : Got (cmp 32 (kpL passing [] [[0, 1], [1, 2, 4], [4], [1, 2, 4], [2, 4, 6], [4], [2, 4, 6], [2, 4, 6, 7], [4, 6, 7, 22, 23], [4, 6, 7, 22, 23], [4, 6, 7, 8, 22, 23], [4, 6, 7, 22, 23], [4, 7]]) (bodyOf Tryz.f114)) := by
 refine ⟨?m, ?h⟩
 case h => conv => lhs; cbv
def m114 : M := g114.m
def fn114 : MFn := ⟨32, [.cell 4 90, .tmp 5], m114, .pass⟩
theorem fnOk114 : FnOk Tryz.prog 114 fn114 := ⟨Tryz.f114, _, _, Tryz.func114, rfl, rfl, by kernel_rfl, by kernel_rfl, g114.h⟩
def g115 : Got (cmp 6 (kpL passing [] [[0, 1], [2, 3]]) (bodyOf Tryz.f115)) := by
 refine ⟨?m, ?h⟩
 case h => conv => lhs; cbv
def m115 : M := g115.m
def fn115 : MFn := ⟨6, [.tmp 4], m115, .shut⟩
theorem fnOk115 : FnOk Tryz.prog 115 fn115 := ⟨Tryz.f115, _, _, Tryz.func115, rfl, rfl, by kernel_rfl, by kernel_rfl, g115.h⟩
def g116 : Got (cmp 11 (kpL passing [] [[0, 1], [1, 2]]) (bodyOf Tryz.f116)) := by
 refine ⟨?m, ?h⟩
 case h => conv => lhs; cbv
def m116 : M := g116.m
def fn116 : MFn := ⟨11, [.tmp 4], m116, .shut⟩
theorem fnOk116 : FnOk Tryz.prog 116 fn116 := ⟨Tryz.f116, _, _, Tryz.func116, rfl, rfl, by kernel_rfl, by kernel_rfl, g116.h⟩
def g117 : Got (cmp 16 (kpL passing [] [[0, 1], [0, 1, 4], [4], [0, 4]]) (bodyOf Tryz.f117)) := by
 refine ⟨?m, ?h⟩
 case h => conv => lhs; cbv
def m117 : M := g117.m
def fn117 : MFn := ⟨16, [.cell 4 61], m117, .pass⟩
theorem fnOk117 : FnOk Tryz.prog 117 fn117 := ⟨Tryz.f117, _, _, Tryz.func117, rfl, rfl, by kernel_rfl, by kernel_rfl, g117.h⟩
def g118 : Got (cmp 22 (kpL passing [7, 8, 9] [[0, 1, 2, 3], [1, 2, 4, 7, 8, 9], [7, 8, 9, 16, 17], [7, 8, 9, 10, 17], [7, 8, 9, 10, 11], [8, 9, 10], [8, 9]]) (bodyOf Tryz.f118)) := by
 refine ⟨?m, ?h⟩
 case h => conv => lhs; reduce
def m118 : M := g118.m
def fn118 : MFn := ⟨22, [.cell 8 3, .cell 9 4], m118, .shut⟩
theorem fnOk118 : FnOk Tryz.prog 118 fn118 := ⟨Tryz.f118, _, _, Tryz.func118, rfl, rfl, by kernel_rfl, by kernel_rfl, g118.h⟩
def g118_l0 : Got ((loopsM m118).getD 0 .bad) := by
 refine ⟨?m, ?h⟩
 case h => conv => lhs; cbv
def m118_l0 : M := g118_l0.m
theorem u118_l0 {C : Ctx} {k : List It} {st : St} {Q : Ex → St → Prop} : RunK C (.code m118_l0 :: k) st Q ↔ RunK C (.code g118_l0.m :: k) st Q := Iff.rfl
def g118_l1 : Got ((loopsM m118).getD 1 .bad) := by
 refine ⟨?m, ?h⟩
 case h => conv => lhs; cbv
def m118_l1 : M := g118_l1.m
theorem u118_l1 {C : Ctx} {k : List It} {st : St} {Q : Ex → St → Prop} : RunK C (.code m118_l1 :: k) st Q ↔ RunK C (.code g118_l1.m :: k) st Q := Iff.rfl
def g119 : Got (cmp 4 (kpL passing [] [[0], [1]]) (bodyOf Tryz.f119)) := by
 refine ⟨?m, ?h⟩
 case h => conv => lhs; cbv
def m119 : M := g119.m
def fn119 : MFn := ⟨4, [.tmp 2], m119, .shut⟩
theorem fnOk119 : FnOk Tryz.prog 119 fn119 := ⟨Tryz.f119, _, _, Tryz.func119, rfl, rfl, by kernel_rfl, by kernel_rfl, g119.h⟩
def g120 : Got (cmp 24 (kpL passing [] [[0, 1], [0, 1, 7, 8], [0, 1, 7, 8], [0, 1, 3, 7, 8], [0, 1, 3, 7, 8, 13, 14], [0, 1, 3, 7, 8, 13, 14], [0, 1, 3, 4, 7, 8, 13, 14], [0, 1, 3, 7, 8, 13, 14], [0, 1, 7, 8]]) (bodyOf Tryz.f120)) := by
 refine ⟨?m, ?h⟩
 case h => conv => lhs; cbv
def m120 : M := g120.m
def fn120 : MFn := ⟨24, [], m120, .pass⟩
theorem fnOk120 : FnOk Tryz.prog 120 fn120 := ⟨Tryz.f120, _, _, Tryz.func120, rfl, rfl, by kernel_rfl, by kernel_rfl, g120.h⟩
def g120_l0 : Got ((loopsM m120).getD 0 .bad) := by
 refine ⟨?m, ?h⟩
 case h => conv => lhs; cbv
def m120_l0 : M := g120_l0.m
theorem u120_l0 {C : Ctx} {k : List It} {st : St} {Q : Ex → St → Prop} : RunK C (.code m120_l0 :: k) st Q ↔ RunK C (.code g120_l0.m :: k) st Q := Iff.rfl
def g120_l1 : Got ((loopsM m120).getD 1 .bad) := by
 refine ⟨?m, ?h⟩
 case h => conv => lhs; cbv
def m120_l1 : M := g120_l1.m
theorem u120_l1 {C : Ctx} {k : List It} {st : St} {Q : Ex → St → Prop} : RunK C (.code m120_l1 :: k) st Q ↔ RunK C (.code g120_l1.m :: k) st Q := Iff.rfl
def g121 : Got (cmp 20 (kpL passing [] [[0, 1], [1, 2], [1, 5, 6], [], [1, 5]]) (bodyOf Tryz.f121)) := by
 refine ⟨?m, ?h⟩
 case h => conv => lhs; cbv
def m121 : M := g121.m
def fn121 : MFn := ⟨20, [.tmp 4], m121, .shut⟩
theorem fnOk121 : FnOk Tryz.prog 121 fn121 := ⟨Tryz.f121, _, _, Tryz.func121, rfl, rfl, by kernel_rfl, by kernel_rfl, g121.h⟩
def g122 : Got (cmp 37 (kpL passing [] [[0], [1], [1, 3], [1, 3, 7, 8], [1, 3, 7, 8], [1, 3, 5, 7, 8], [1, 3, 4, 5, 7, 8], [1, 3, 5, 7, 8], [], [1, 3, 5, 7, 8], [], [1, 3, 7, 8], []]) (bodyOf Tryz.f122)) := by
 refine ⟨?m, ?h⟩
 case h => conv => lhs; cbv
def m122 : M := g122.m
def fn122 : MFn := ⟨37, [.tmp 2], m122, .shut⟩
theorem fnOk122 : FnOk Tryz.prog 122 fn122 := ⟨Tryz.f122, _, _, Tryz.func122, rfl, rfl, by kernel_rfl, by kernel_rfl, g122.h⟩
def g122_l0 : Got ((loopsM m122).getD 0 .bad) := by
 refine ⟨?m, ?h⟩
 case h => conv => lhs; cbv
def m122_l0 : M := g122_l0.m
theorem u122_l0 {C : Ctx} {k : List It} {st : St} {Q : Ex → St → Prop} : RunK C (.code m122_l0 :: k) st Q ↔ RunK C (.code g122_l0.m :: k) st Q := Iff.rfl
def g123 : Got (cmp 8 (kpL passing [] [[0, 1, 2], [4, 5]]) (bodyOf Tryz.f123)) := by
 refine ⟨?m, ?h⟩
 case h => conv => lhs; cbv
def m123 : M := g123.m
def fn123 : MFn := ⟨8, [.tmp 6], m123, .shut⟩
theorem fnOk123 : FnOk Tryz.prog 123 fn123 := ⟨Tryz.f123, _, _, Tryz.func123, rfl, rfl, by kernel_rfl, by kernel_rfl, g123.h⟩
def g124 : Got (cmp 13 (kpL passing [] [[0], [0]]) (bodyOf Tryz.f124)) := by
 refine ⟨?m, ?h⟩
 case h => conv => lhs; cbv
def m124 : M := g124.m
def fn124 : MFn := ⟨13, [.tmp 2], m124, .shut⟩
theorem fnOk124 : FnOk Tryz.prog 124 fn124 := ⟨Tryz.f124, _, _, Tryz.func124, rfl, rfl, by kernel_rfl, by kernel_rfl, g124.h⟩
def g125 : Got (cmp 4 (kpL passing [] [[0], [1]]) (bodyOf Tryz.f125)) := by
 refine ⟨?m, ?h⟩
 case h => conv => lhs; cbv
def m125 : M := g125.m
def fn125 : MFn := ⟨4, [.tmp 2], m125, .pass⟩
theorem fnOk125 : FnOk Tryz.prog 125 fn125 := ⟨Tryz.f125, _, _, Tryz.func125, rfl, rfl, by kernel_rfl, by kernel_rfl, g125.h⟩
def g126 : Got (cmp 24 (kpL passing [] [[0, 1], [0, 1], [0, 1, 5], [1, 5, 11, 12, 13], [1, 5, 11, 12, 13], [1, 5, 7, 11, 12, 13], [1, 5, 11, 12, 13], [1, 5, 11, 12, 13], [5]]) (bodyOf Tryz.f126)) := by
 refine ⟨?m, ?h⟩
 case h => conv => lhs; cbv
def m126 : M := g126.m
def fn126 : MFn := ⟨24, [.tmp 4], m126, .pass⟩
theorem fnOk126 : FnOk Tryz.prog 126 fn126 := ⟨Tryz.f126, _, _, Tryz.func126, rfl, rfl, by kernel_rfl, by kernel_rfl, g126.h⟩
def g126_l0 : Got ((loopsM m126).getD 0 .bad) := by
 refine ⟨?m, ?h⟩
 case h => conv => lhs; cbv
def m126_l0 : M := g126_l0.m
theorem u126_l0 {C : Ctx} {k : List It} {st : St} {Q : Ex → St → Prop} : RunK C (.code m126_l0 :: k) st Q ↔ RunK C (.code g126_l0.m :: k) st Q := Iff.rfl
def g127 : Got (cmp 24 (kpL passing [] [[0, 1], [1, 2]]) (bodyOf Tryz.f127)) := by
 refine ⟨?m, ?h⟩
 case h => conv => lhs; cbv
def m127 : M := g127.m
def fn127 : MFn := ⟨24, [.tmp 3], m127, .pass⟩
theorem fnOk127 : FnOk Tryz.prog 127 fn127 := ⟨Tryz.f127, _, _, Tryz.func127, rfl, rfl, by kernel_rfl, by kernel_rfl, g127.h⟩
def g128 : Got (cmp 24 (kpL passing [] [[0, 1], [1, 2]]) (bodyOf Tryz.f128)) := by
 refine ⟨?m, ?h⟩
 case h => conv => lhs; cbv
def m128 : M := g128.m
def fn128 : MFn := ⟨24, [.tmp 3], m128, .pass⟩
theorem fnOk128 : FnOk Tryz.prog 128 fn128 := ⟨Tryz.f128, _, _, Tryz.func128, rfl, rfl, by kernel_rfl, by kernel_rfl, g128.h⟩
def g129 : Got (cmp 8 (kpL passing [] [[0, 1, 2], [1, 2, 3]]) (bodyOf Tryz.f129)) := by
 refine ⟨?m, ?h⟩
 case h => conv => lhs; cbv
def m129 : M := g129.m
def fn129 : MFn := ⟨8, [.tmp 4], m129, .pass⟩
theorem fnOk129 : FnOk Tryz.prog 129 fn129 := ⟨Tryz.f129, _, _, Tryz.func129, rfl, rfl, by kernel_rfl, by kernel_rfl, g129.h⟩
def g130 : Got (cmp 15 (kpL passing [] [[0, 1, 2], [1, 2, 3]]) (bodyOf Tryz.f130)) := by
 refine ⟨?m, ?h⟩
 case h => conv => lhs; cbv
def m130 : M := g130.m
def fn130 : MFn := ⟨15, [.tmp 4], m130, .pass⟩
theorem fnOk130 : FnOk Tryz.prog 130 fn130 := ⟨Tryz.f130, _, _, Tryz.func130, rfl, rfl, by kernel_rfl, by kernel_rfl, g130.h⟩
def g131 : Got (cmp 8 (kpL passing [] [[0, 1], [1, 2]]) (bodyOf Tryz.f131)) := by
 refine ⟨?m, ?h⟩
 case h => conv => lhs; cbv
def m131 : M := g131.m
def fn131 : MFn := ⟨8, [.tmp 3], m131, .pass⟩
theorem fnOk131 : FnOk Tryz.prog 131 fn131 := ⟨Tryz.f131, _, _, Tryz.func131, rfl, rfl, by kernel_rfl, by kernel_rfl, g131.h⟩
def g132 : Got (cmp 9 (kpL passing [] [[0, 1], [0, 1]]) (bodyOf Tryz.f132)) := by
 refine ⟨?m, ?h⟩
 case h => conv => lhs; cbv
def m132 : M := g132.m
def fn132 : MFn := ⟨9, [.tmp 4], m132, .shut⟩
theorem fnOk132 : FnOk Tryz.prog 132 fn132 := ⟨Tryz.f132, _, _, Tryz.func132, rfl, rfl, by kernel_rfl, by kernel_rfl, g132.h⟩
def g133 : Got (cmp 4 (kpL passing [] [[0], [1]]) (bodyOf Tryz.f133)) := by
 refine ⟨?m, ?h⟩
 case h => conv => lhs; cbv
def m133 : M := g133.m
def fn133 : MFn := ⟨4, [.tmp 2], m133, .pass⟩
theorem fnOk133 : FnOk Tryz.prog 133 fn133 := ⟨Tryz.f133, _, _, Tryz.func133, rfl, rfl, by kernel_rfl, by kernel_rfl, g133.h⟩
def g135 : Got (cmp 9 (kpL passing [] [[0], [0]]) (bodyOf Tryz.f135)) := by
 refine ⟨?m, ?h⟩
 case h => conv => lhs; cbv
def m135 : M := g135.m
def fn135 : MFn := ⟨9, [.tmp 2], m135, .pass⟩
theorem fnOk135 : FnOk Tryz.prog 135 fn135 := ⟨Tryz.f135, _, _, Tryz.func135, rfl, rfl, by kernel_rfl, by kernel_rfl, g135.h⟩
def g136 : Got (cmp 33 (kpL passing [] [[0, 1], [1, 2, 4], [1, 2, 4, 6, 7], [4], [1, 2, 4, 6], [4, 6, 7, 8]]) (bodyOf Tryz.f136)) := by
 refine ⟨?m, ?h⟩
 case h => conv => lhs; reduce
def m136 : M := g136.m
def fn136 : MFn := ⟨33, [.cell 4 36, .tmp 5], m136, .pass⟩
theorem fnOk136 : FnOk Tryz.prog 136 fn136 := ⟨Tryz.f136, _, _, Tryz.func136, rfl, rfl, by kernel_rfl, by kernel_rfl, g136.h⟩
def g137 : Got (cmp 12 (kpL passing [] [[0, 1], [0, 1]]) (bodyOf Tryz.f137)) := by
 refine ⟨?m, ?h⟩
 case h => conv => lhs; cbv
def m137 : M := g137.m
def fn137 : MFn := ⟨12, [.tmp 4, .tmp 5], m137, .pass⟩
theorem fnOk137 : FnOk Tryz.prog 137 fn137 := ⟨Tryz.f137, _, _, Tryz.func137, rfl, rfl, by kernel_rfl, by kernel_rfl, g137.h⟩
def g138 : Got (cmp 51 (kpL passing [] [[0, 1], [0, 1], [], [0, 1], [], [0, 1], [0, 1, 6], [0, 1, 6], [0, 1, 6, 7, 8], [], [0, 1, 6, 7], [6]]) (bodyOf Tryz.f138)) := by
 refine ⟨?m, ?h⟩
 case h => conv => lhs; cbv
def m138 : M := g138.m
def fn138 : MFn := ⟨51, [.tmp 4, .tmp 5], m138, .pass⟩
theorem fnOk138 : FnOk Tryz.prog 138 fn138 := ⟨Tryz.f138, _, _, Tryz.func138, rfl, rfl, by kernel_rfl, by kernel_rfl, g138.h⟩
def g139 : Got (cmp 5 (kpL passing [] [[0], [0]]) (bodyOf Tryz.f139)) := by
 refine ⟨?m, ?h⟩
 case h => conv => lhs; cbv
def m139 : M := g139.m
def fn139 : MFn := ⟨5, [.tmp 2], m139, .pass⟩
theorem fnOk139 : FnOk Tryz.prog 139 fn139 := ⟨Tryz.f139, _, _, Tryz.func139, rfl, rfl, by kernel_rfl, by kernel_rfl, g139.h⟩
def g140 : Got (cmp 31 (kpL passing [2, 3, 4] [[0, 1, 2], [1, 2, 3], [1, 2, 3, 4], [2, 3, 4, 9], [2, 3, 4, 5], [2, 3, 4, 5], [2, 3, 4, 5], [3, 4, 6]]) (bodyOf Tryz.f140)) := by
 refine ⟨?m, ?h⟩
 case h => conv => lhs; reduce
def m140 : M := g140.m
def fn140 : MFn := ⟨31, [], m140, .pass⟩
theorem fnOk140 : FnOk Tryz.prog 140 fn140 := ⟨Tryz.f140, _, _, Tryz.func140, rfl, rfl, by kernel_rfl, by kernel_rfl, g140.h⟩
def g141 : Got (cmp 8 (kpL passing [] [[0, 1], [0, 1]]) (bodyOf Tryz.f141)) := by
 refine ⟨?m, ?h⟩
 case h => conv => lhs; cbv
def m141 : M := g141.m
def fn141 : MFn := ⟨8, [.tmp 4], m141, .pass⟩
theorem fnOk141 : FnOk Tryz.prog 141 fn141 := ⟨Tryz.f141, _, _, Tryz.func141, rfl, rfl, by kernel_rfl, by kernel_rfl, g141.h⟩
def g142 : Got (cmp 13 (kpL passing [] [[0, 1], [0, 1]]) (bodyOf Tryz.f142)) := by
 refine ⟨?m, ?h⟩
 case h => conv => lhs; cbv
def m142 : M := g142.m
def fn142 : MFn := ⟨13, [.tmp 4, .tmp 5, .tmp 6], m142, .shut⟩
theorem fnOk142 : FnOk Tryz.prog 142 fn142 := ⟨Tryz.f142, _, _, Tryz.func142, rfl, rfl, by kernel_rfl, by kernel_rfl, g142.h⟩
def g143 : Got (cmp 65 (kpL passing [] [[0, 1], [0, 1], [0, 1, 5], [0, 1, 5, 6], [0, 1, 5, 6, 14], [0, 1, 5, 6, 14, 15], [0, 1, 5, 6, 7, 8, 14], [0, 1, 5, 6, 7, 14], [0, 1, 5, 6, 7, 14], [0, 1, 5, 6, 14], [0, 1, 5, 6, 7, 14], [0, 1, 5, 7, 14], [0, 5, 6], [0, 5, 6], [0, 5], [0, 5, 9], [0, 9, 47, 48, 49], [0, 9, 47, 48, 49], [0, 9, 10, 11, 47, 48, 49], [0, 9, 47, 48, 49], [9]]) (bodyOf Tryz.f143)) := by
 refine ⟨?m, ?h⟩
 case h => conv => lhs; cbv
def m143 : M := g143.m
def fn143 : MFn := ⟨65, [.tmp 4], m143, .shut⟩
theorem fnOk143 : FnOk Tryz.prog 143 fn143 := ⟨Tryz.f143, _, _, Tryz.func143, rfl, rfl, by kernel_rfl, by kernel_rfl, g143.h⟩
def g144 : Got (cmp 59 (kpL passing [] [[0], [0, 2], [0, 2, 4], [2], [0, 2, 4, 14], [0, 2, 4, 14], [0, 2, 4], [0, 2, 4], [0, 2, 4, 5, 6], [2, 4, 5, 6, 7, 8], [2], [2, 4, 5, 7], [2, 4]]) (bodyOf Tryz.f144)) := by
 refine ⟨?m, ?h⟩
 case h => conv => lhs; reduce
def m144 : M := g144.m
def fn144 : MFn := ⟨59, [.cell 2 225, .tmp 3], m144, .pass⟩
theorem fnOk144 : FnOk Tryz.prog 144 fn144 := ⟨Tryz.f144, _, _, Tryz.func144, rfl, rfl, by kernel_rfl, by kernel_rfl, g144.h⟩
def g145 : Got (cmp 25 (kpL passing [] [[0], [0], [], [0], [0, 3], [3]]) (bodyOf Tryz.f145)) := by
 refine ⟨?m, ?h⟩
 case h => conv => lhs; cbv
def m145 : M := g145.m
def fn145 : MFn := ⟨25, [.tmp 2], m145, .pass⟩
theorem fnOk145 : FnOk Tryz.prog 145 fn145 := ⟨Tryz.f145, _, _, Tryz.func145, rfl, rfl, by kernel_rfl, by kernel_rfl, g145.h⟩
def g146 : Got (cmp 27 (kpL passing [] [[0, 1], [1, 2], [1, 2], [1, 2]]) (bodyOf Tryz.f146)) := by
 refine ⟨?m, ?h⟩
 case h => conv => lhs; reduce
def m146 : M := g146.m
def fn146 : MFn := ⟨27, [.tmp 4], m146, .pass⟩
theorem fnOk146 : FnOk Tryz.prog 146 fn146 := ⟨Tryz.f146, _, _, Tryz.func146, rfl, rfl, by kernel_rfl, by kernel_rfl, g146.h⟩
def g147 : Got (cmp 4 (kpL passing [] [[0], [1]]) (bodyOf Tryz.f147)) := by
 refine ⟨?m, ?h⟩
 case h => conv => lhs; cbv
def m147 : M := g147.m
def fn147 : MFn := ⟨4, [.tmp 2], m147, .pass⟩
theorem fnOk147 : FnOk Tryz.prog 147 fn147 := ⟨Tryz.f147, _, _, Tryz.func147, rfl, rfl, by kernel_rfl, by kernel_rfl, g147.h⟩
def g148 : Got (cmp 18 (kpL passing [] [[0], [1], [1, 3]]) (bodyOf Tryz.f148)) := by
 refine ⟨?m, ?h⟩
 case h => conv => lhs; cbv
def m148 : M := g148.m
def fn148 : MFn := ⟨18, [.tmp 2], m148, .pass⟩
theorem fnOk148 : FnOk Tryz.prog 148 fn148 := ⟨Tryz.f148, _, _, Tryz.func148, rfl, rfl, by kernel_rfl, by kernel_rfl, g148.h⟩
def g149 : Got (cmp 1 (kpL passing [] [[], []]) (bodyOf Tryz.f149)) := by
 refine ⟨?m, ?h⟩
 case h => conv => lhs; cbv
def m149 : M := g149.m
def fn149 : MFn := ⟨1, [.tmp 0], m149, .shut⟩
theorem fnOk149 : FnOk Tryz.prog 149 fn149 := ⟨Tryz.f149, _, _, Tryz.func149, rfl, rfl, by kernel_rfl, by kernel_rfl, g149.h⟩
def g150 : Got (cmp 42 (kpL passing [] [[0, 1], [2, 3], [2, 3, 6], [2, 3, 6], [2, 3, 6], [3], [2, 3, 6], [2, 3], [3], [3], []]) (bodyOf Tryz.f150)) := by
 refine ⟨?m, ?h⟩
 case h => conv => lhs; cbv
def m150 : M := g150.m
def fn150 : MFn := ⟨42, [.tmp 4], m150, .shut⟩
theorem fnOk150 : FnOk Tryz.prog 150 fn150 := ⟨Tryz.f150, _, _, Tryz.func150, rfl, rfl, by kernel_rfl, by kernel_rfl, g150.h⟩
def g151 : Got (cmp 8 (kpL passing [] [[0, 1], [0, 1, 4]]) (bodyOf Tryz.f151)) := by
 refine ⟨?m, ?h⟩
 case h => conv => lhs; cbv
def m151 : M := g151.m
def fn151 : MFn := ⟨8, [.cell 4 87], m151, .pass⟩
theorem fnOk151 : FnOk Tryz.prog 151 fn151 := ⟨Tryz.f151, _, _, Tryz.func151, rfl, rfl, by kernel_rfl, by kernel_rfl, g151.h⟩
def g152 : Got (cmp 20 (kpL passing [] [[0, 1, 2], [0, 1, 2, 4], [0, 1, 2, 4], [0, 1, 2, 4]]) (bodyOf Tryz.f152)) := by
 refine ⟨?m, ?h⟩
 case h => conv => lhs; reduce
def m152 : M := g152.m
def fn152 : MFn := ⟨20, [], m152, .pass⟩
theorem fnOk152 : FnOk Tryz.prog 152 fn152 := ⟨Tryz.f152, _, _, Tryz.func152, rfl, rfl, by kernel_rfl, by kernel_rfl, g152.h⟩
def g153 : Got (cmp 8 (kpL passing [] [[0, 1, 2], [3, 4, 5]]) (bodyOf Tryz.f153)) := by
 refine ⟨?m, ?h⟩
 case h => conv => lhs; cbv
def m153 : M := g153.m
def fn153 : MFn := ⟨8, [.tmp 6], m153, .shut⟩
theorem fnOk153 : FnOk Tryz.prog 153 fn153 := ⟨Tryz.f153, _, _, Tryz.func153, rfl, rfl, by kernel_rfl, by kernel_rfl, g153.h⟩
def g154 : Got (cmp 13 (kpL passing [] [[0, 1], [1, 2]]) (bodyOf Tryz.f154)) := by
 refine ⟨?m, ?h⟩
 case h => conv => lhs; cbv
def m154 : M := g154.m
def fn154 : MFn := ⟨13, [.tmp 3], m154, .pass⟩
theorem fnOk154 : FnOk Tryz.prog 154 fn154 := ⟨Tryz.f154, _, _, Tryz.func154, rfl, rfl, by kernel_rfl, by kernel_rfl, g154.h⟩
def g155 : Got (cmp 17 (kpL passing [] [[0, 1, 2], [0, 1, 2]]) (bodyOf Tryz.f155)) := by
 refine ⟨?m, ?h⟩
 case h => conv => lhs; cbv
def m155 : M := g155.m
def fn155 : MFn := ⟨17, [.tmp 4], m155, .pass⟩
theorem fnOk155 : FnOk Tryz.prog 155 fn155 := ⟨Tryz.f155, _, _, Tryz.func155, rfl, rfl, by kernel_rfl, by kernel_rfl, g155.h⟩
def g156 : Got (cmp 15 (kpL passing [] [[0, 1], [0, 1], [0, 1]]) (bodyOf Tryz.f156)) := by
 refine ⟨?m, ?h⟩
 case h => conv => lhs; cbv
def m156 : M := g156.m
def fn156 : MFn := ⟨15, [], m156, .pass⟩
theorem fnOk156 : FnOk Tryz.prog 156 fn156 := ⟨Tryz.f156, _, _, Tryz.func156, rfl, rfl, by kernel_rfl, by kernel_rfl, g156.h⟩
def g156_l0 : Got ((loopsM m156).getD 0 .bad) := by
 refine ⟨?m, ?h⟩
 case h => conv => lhs; cbv
def m156_l0 : M := g156_l0.m
theorem u156_l0 {C : Ctx} {k : List It} {st : St} {Q : Ex → St → Prop} : RunK C (.code m156_l0 :: k) st Q ↔ RunK C (.code g156_l0.m :: k) st Q := Iff.rfl
def g157 : Got (cmp 14 (kpL passing [] [[0], [0], [], [0]]) (bodyOf Tryz.f157)) := by
 refine ⟨?m, ?h⟩
 case h => conv => lhs; cbv
def m157 : M := g157.m
def fn157 : MFn := ⟨14, [.tmp 2], m157, .shut⟩
theorem fnOk157 : FnOk Tryz.prog 157 fn157 := ⟨Tryz.f157, _, _, Tryz.func157, rfl, rfl, by kernel_rfl, by kernel_rfl, g157.h⟩
def g158 : Got (cmp 19 (kpL passing [] [[0, 1], [0, 1], [0, 1, 7, 8], [0, 1, 7, 8], [0, 1, 5, 7, 8], [5], [0, 1, 7, 8], []]) (bodyOf Tryz.f158)) := by
 refine ⟨?m, ?h⟩
 case h => conv => lhs; cbv
def m158 : M := g158.m
def fn158 : MFn := ⟨19, [.tmp 4], m158, .shut⟩
theorem fnOk158 : FnOk Tryz.prog 158 fn158 := ⟨Tryz.f158, _, _, Tryz.func158, rfl, rfl, by kernel_rfl, by kernel_rfl, g158.h⟩
def g158_l0 : Got ((loopsM m158).getD 0 .bad) := by
 refine ⟨?m, ?h⟩
 case h => conv => lhs; cbv
def m158_l0 : M := g158_l0.m
theorem u158_l0 {C : Ctx} {k : List It} {st : St} {Q : Ex → St → Prop} : RunK C (.code m158_l0 :: k) st Q ↔ RunK C (.code g158_l0.m :: k) st Q := Iff.rfl
def g159 : Got (cmp 29 (kpL passing [] [[0, 1], [0, 1], [], [0, 1], [0, 1, 17], [0, 1, 17], [0, 1, 6, 17], [6], [0, 1, 17], []]) (bodyOf Tryz.f159)) := by
 refine ⟨?m, ?h⟩
 case h => conv => lhs; cbv
def m159 : M := g159.m
def fn159 : MFn := ⟨29, [.tmp 4, .tmp 5], m159, .shut⟩
theorem fnOk159 : FnOk Tryz.prog 159 fn159 := ⟨Tryz.f159, _, _, Tryz.func159, rfl, rfl, by kernel_rfl, by kernel_rfl, g159.h⟩
def g160 : Got (cmp 8 (kpL passing [] [[0, 1, 2], [3, 4, 5]]) (bodyOf Tryz.f160)) := by
 refine ⟨?m, ?h⟩
 case h => conv => lhs; cbv
def m160 : M := g160.m
def fn160 : MFn := ⟨8, [.tmp 6], m160, .pass⟩
theorem fnOk160 : FnOk Tryz.prog 160 fn160 := ⟨Tryz.f160, _, _, Tryz.func160, rfl, rfl, by kernel_rfl, by kernel_rfl, g160.h⟩
def g161 : Got (cmp 23 (kpL passing [] [[0, 1], [0, 1], [0, 1, 7], [0, 1, 7], [0]]) (bodyOf Tryz.f161)) := by
 refine ⟨?m, ?h⟩
 case h => conv => lhs; reduce
def m161 : M := g161.m
def fn161 : MFn := ⟨23, [.tmp 4, .tmp 5, .tmp 6], m161, .shut⟩
theorem fnOk161 : FnOk Tryz.prog 161 fn161 := ⟨Tryz.f161, _, _, Tryz.func161, rfl, rfl, by kernel_rfl, by kernel_rfl, g161.h⟩
def g162 : Got (cmp 2 (kpL passing [] [[], [0]]) (bodyOf Tryz.f162)) := by
 refine ⟨?m, ?h⟩
 case h => conv => lhs; cbv
def m162 : M := g162.m
def fn162 : MFn := ⟨2, [.cell 0 206], m162, .shut⟩
theorem fnOk162 : FnOk Tryz.prog 162 fn162 := ⟨Tryz.f162, _, _, Tryz.func162, rfl, rfl, by kernel_rfl, by kernel_rfl, g162.h⟩
def g163 : Got (cmp 2 (kpL passing [] [[], [0]]) (bodyOf Tryz.f163)) := by
 refine ⟨?m, ?h⟩
 case h => conv => lhs; cbv
def m163 : M := g163.m
def fn163 : MFn := ⟨2, [.cell 0 206], m163, .shut⟩
theorem fnOk163 : FnOk Tryz.prog 163 fn163 := ⟨Tryz.f163, _, _, Tryz.func163, rfl, rfl, by kernel_rfl, by kernel_rfl, g163.h⟩
def g164 : Got (cmp 53 (kpL passing [] [[0, 1], [0, 1, 7], [0, 1, 7], [0, 1, 3, 7], [0, 1, 3, 7, 10], [0, 1, 3, 7, 10], [0, 1, 3, 4, 7, 10], [0, 1, 3, 7, 10], [0, 1, 7], [0, 1], [0, 1, 30], [0, 1, 30], [0, 1, 5, 30], [0, 1, 5, 30, 33], [0, 1, 5, 30, 33], [0, 1, 5, 6, 30, 33], [0, 1, 5, 30, 33], [0, 1, 30]]) (bodyOf Tryz.f164)) := by
 refine ⟨?m, ?h⟩
 case h => conv => lhs; cbv
def m164 : M := g164.m
def fn164 : MFn := ⟨53, [], m164, .pass⟩
theorem fnOk164 : FnOk Tryz.prog 164 fn164 := ⟨Tryz.f164, _, _, Tryz.func164, rfl, rfl, by kernel_rfl, by kernel_rfl, g164.h⟩
def g164_l0 : Got ((loopsM m164).getD 0 .bad) := by
 refine ⟨?m, ?h⟩
 case h => conv => lhs; cbv
def m164_l0 : M := g164_l0.m
theorem u164_l0 {C : Ctx} {k : List It} {st : St} {Q : Ex → St → Prop} : RunK C (.code m164_l0 :: k) st Q ↔ RunK C (.code g164_l0.m :: k) st Q := Iff.rfl
def g164_l1 : Got ((loopsM m164).getD 1 .bad) := by
 refine ⟨?m, ?h⟩
 case h => conv => lhs; cbv
def m164_l1 : M := g164_l1.m
theorem u164_l1 {C : Ctx} {k : List It} {st : St} {Q : Ex → St → Prop} : RunK C (.code m164_l1 :: k) st Q ↔ RunK C (.code g164_l1.m :: k) st Q := Iff.rfl
def g164_l2 : Got ((loopsM m164).getD 2 .bad) := by
 refine ⟨?m, ?h⟩
 case h => conv => lhs; cbv
def m164_l2 : M := g164_l2.m
theorem u164_l2 {C : Ctx} {k : List It} {st : St} {Q : Ex → St → Prop} : RunK C (.code m164_l2 :: k) st Q ↔ RunK C (.code g164_l2.m :: k) st Q := Iff.rfl
def g164_l3 : Got ((loopsM m164).getD 3 .bad) := by
 refine ⟨?m, ?h⟩
 case h => conv => lhs; cbv
def m164_l3 : M := g164_l3.m
theorem u164_l3 {C : Ctx} {k : List It} {st : St} {Q : Ex → St → Prop} : RunK C (.code m164_l3 :: k) st Q ↔ RunK C (.code g164_l3.m :: k) st Q := Iff.rfl
def g165 : Got (cmp 20 (kpL passing [] [[0, 1], [0, 1], [0, 9, 10, 11], [0, 9, 10, 11], [0, 5, 9, 10, 11], [], [0, 9, 10, 11], []]) (bodyOf Tryz.f165)) := by
 refine ⟨?m, ?h⟩
 case h => conv => lhs; cbv
def m165 : M := g165.m
def fn165 : MFn := ⟨20, [.tmp 3], m165, .pass⟩
theorem fnOk165 : FnOk Tryz.prog 165 fn165 := ⟨Tryz.f165, _, _, Tryz.func165, rfl, rfl, by kernel_rfl, by kernel_rfl, g165.h⟩
def g166 : Got (cmp 7 (kpL passing [] [[0], [0]]) (bodyOf Tryz.f166)) := by
 refine ⟨?m, ?h⟩
 case h => conv => lhs; cbv
def m166 : M := g166.m
def fn166 : MFn := ⟨7, [.tmp 1], m166, .pass⟩
theorem fnOk166 : FnOk Tryz.prog 166 fn166 := ⟨Tryz.f166, _, _, Tryz.func166, rfl, rfl, by kernel_rfl, by kernel_rfl, g166.h⟩
def g167 : Got (cmp 34 (kpL passing [] [[0], [0], [0, 3, 5]]) (bodyOf Tryz.f167)) := by
 refine ⟨?m, ?h⟩
 case h => conv => lhs; cbv
def m167 : M := g167.m
def fn167 : MFn := ⟨34, [.tmp 2], m167, .shut⟩
theorem fnOk167 : FnOk Tryz.prog 167 fn167 := ⟨Tryz.f167, _, _, Tryz.func167, rfl, rfl, by kernel_rfl, by kernel_rfl, g167.h⟩
def g168 : Got (cmp 4 (kpL passing [] [[0], [0]]) (bodyOf Tryz.f168)) := by
 refine ⟨?m, ?h⟩
 case h => conv => lhs; cbv
def m168 : M := g168.m
def fn168 : MFn := ⟨4, [.tmp 1], m168, .pass⟩
theorem fnOk168 : FnOk Tryz.prog 168 fn168 := ⟨Tryz.f168, _, _, Tryz.func168, rfl, rfl, by kernel_rfl, by kernel_rfl, g168.h⟩
def g169 : Got (cmp 56 (kpL passing [] [[0], [0], [], [0], [0, 35, 36, 37], [0, 35, 36, 37], [0, 3, 4, 35, 36, 37], [], [0, 35, 36, 37], []]) (bodyOf Tryz.f169)) := by
 refine ⟨?m, ?h⟩
 case h => conv => lhs; reduce
def m169 : M := g169.m
def fn169 : MFn := ⟨56, [.tmp 2], m169, .shut⟩
theorem fnOk169 : FnOk Tryz.prog 169 fn169 := ⟨Tryz.f169, _, _, Tryz.func169, rfl, rfl, by kernel_rfl, by kernel_rfl, g169.h⟩
def g170 : Got (cmp 21 (kpL passing [] [[0, 1], [0, 1]]) (bodyOf Tryz.f170)) := by
 refine ⟨?m, ?h⟩
 case h => conv => lhs; cbv
def m170 : M := g170.m
def fn170 : MFn := ⟨21, [.tmp 2], m170, .pass⟩
theorem fnOk170 : FnOk Tryz.prog 170 fn170 := ⟨Tryz.f170, _, _, Tryz.func170, rfl, rfl, by kernel_rfl, by kernel_rfl, g170.h⟩
def g171 : Got (cmp 6 (kpL passing [] [[0], [0]]) (bodyOf Tryz.f171)) := by
 refine ⟨?m, ?h⟩
 case h => conv => lhs; cbv
def m171 : M := g171.m
def fn171 : MFn := ⟨6, [.tmp 2], m171, .pass⟩
theorem fnOk171 : FnOk Tryz.prog 171 fn171 := ⟨Tryz.f171, _, _, Tryz.func171, rfl, rfl, by kernel_rfl, by kernel_rfl, g171.h⟩
def g172 : Got (cmp 6 (kpL passing [] [[0, 1], [0, 1]]) (bodyOf Tryz.f172)) := by
 refine ⟨?m, ?h⟩
 case h => conv => lhs; cbv
def m172 : M := g172.m
def fn172 : MFn := ⟨6, [.tmp 2], m172, .pass⟩
theorem fnOk172 : FnOk Tryz.prog 172 fn172 := ⟨Tryz.f172, _, _, Tryz.func172, rfl, rfl, by kernel_rfl, by kernel_rfl, g172.h⟩
def g173 : Got (cmp 11 (kpL passing [] [[0, 1], [0, 1]]) (bodyOf Tryz.f173)) := by
 refine ⟨?m, ?h⟩
 case h => conv => lhs; cbv
def m173 : M := g173.m
def fn173 : MFn := ⟨11, [.tmp 3], m173, .pass⟩
theorem fnOk173 : FnOk Tryz.prog 173 fn173 := ⟨Tryz.f173, _, _, Tryz.func173, rfl, rfl, by kernel_rfl, by kernel_rfl, g173.h⟩
def g174 : Got (cmp 43 (kpL passing [] [[0, 1], [0, 1], [], [0, 1], [0, 5], [0, 5, 6], [0, 5, 6, 17, 18, 19], [0, 5, 6, 17, 18, 19], [0, 5, 6, 7, 8, 17, 18, 19], [0, 5, 6, 17, 18, 19], [0, 5, 6, 17, 18, 19, 32, 33, 34], [0, 5, 6, 17, 18, 19, 32, 33, 34], [0, 5, 6, 10, 17, 18, 19, 32, 33, 34], [], [0, 5, 6, 17, 18, 19, 32, 33, 34], [0, 5, 6, 17, 18, 19], []]) (bodyOf Tryz.f174)) := by
 refine ⟨?m, ?h⟩
 case h => conv => lhs; cbv
def m174 : M := g174.m
def fn174 : MFn := ⟨43, [.tmp 4], m174, .shut⟩
theorem fnOk174 : FnOk Tryz.prog 174 fn174 := ⟨Tryz.f174, _, _, Tryz.func174, rfl, rfl, by kernel_rfl, by kernel_rfl, g174.h⟩
def g175 : Got (cmp 21 (kpL passing [] [[0], [0]]) (bodyOf Tryz.f175)) := by
 refine ⟨?m, ?h⟩
 case h => conv => lhs; cbv
def m175 : M := g175.m
def fn175 : MFn := ⟨21, [.tmp 1], m175, .pass⟩
theorem fnOk175 : FnOk Tryz.prog 175 fn175 := ⟨Tryz.f175, _, _, Tryz.func175, rfl, rfl, by kernel_rfl, by kernel_rfl, g175.h⟩
def g176 : Got (cmp 17 (kpL passing [] [[0], [0]]) (bodyOf Tryz.f176)) := by
 refine ⟨?m, ?h⟩
 case h => conv => lhs; reduce
def m176 : M := g176.m
def fn176 : MFn := ⟨17, [.tmp 1], m176, .pass⟩
theorem fnOk176 : FnOk Tryz.prog 176 fn176 := ⟨Tryz.f176, _, _, Tryz.func176, rfl, rfl, by kernel_rfl, by kernel_rfl, g176.h⟩
def g177 : Got (cmp 10 (kpL passing [] [[0, 1, 2], [1, 2, 3]]) (bodyOf Tryz.f177)) := by
 refine ⟨?m, ?h⟩
 case h => conv => lhs; cbv
def m177 : M := g177.m
def fn177 : MFn := ⟨10, [.tmp 6], m177, .shut⟩
theorem fnOk177 : FnOk Tryz.prog 177 fn177 := ⟨Tryz.f177, _, _, Tryz.func177, rfl, rfl, by kernel_rfl, by kernel_rfl, g177.h⟩
def g178 : Got (cmp 36 (kpL passing [] [[0], [0, 6], [0, 6], [0, 2, 6], [0, 2, 6, 9], [0, 2, 6, 9], [0, 2, 3, 6, 9], [0, 2, 6, 9], [0, 6], [0], [0, 21], [0, 21], [0, 4, 21], [0, 4, 21, 24], [0, 4, 21, 24], [0, 4, 5, 21, 24], [0, 4, 21, 24], [0, 21]]) (bodyOf Tryz.f178)) := by
 refine ⟨?m, ?h⟩
 case h => conv => lhs; cbv
def m178 : M := g178.m
def fn178 : MFn := ⟨36, [], m178, .pass⟩
theorem fnOk178 : FnOk Tryz.prog 178 fn178 := ⟨Tryz.f178, _, _, Tryz.func178, rfl, rfl, by kernel_rfl, by kernel_rfl, g178.h⟩
def g179 : Got (cmp 43 (kpL passing [] [[0, 1], [0, 1, 4], [0, 1, 4, 6], [4], [0, 1, 4], [0, 1, 4, 7], [4, 7], [1, 4, 7], [4, 7, 32, 33], [4, 7, 32, 33], [4, 7, 8, 32, 33], [4, 7, 32, 33], [4, 7]]) (bodyOf Tryz.f179)) := by
 refine ⟨?m, ?h⟩
 case h => conv => lhs; cbv
def m179 : M := g179.m
def fn179 : MFn := ⟨43, [.cell 4 87], m179, .pass⟩
theorem fnOk179 : FnOk Tryz.prog 179 fn179 := ⟨Tryz.f179, _, _, Tryz.func179, rfl, rfl, by kernel_rfl, by kernel_rfl, g179.h⟩
def g180 : Got (cmp 25 (kpL passing [] [[0, 1, 2, 3], [0, 2, 3, 8, 9], [0, 2, 3, 8, 9], [0, 2, 3, 5, 8, 9], [0, 2, 3, 8, 9]]) (bodyOf Tryz.f180)) := by
 refine ⟨?m, ?h⟩
 case h => conv => lhs; reduce
def m180 : M := g180.m
def fn180 : MFn := ⟨25, [], m180, .pass⟩
theorem fnOk180 : FnOk Tryz.prog 180 fn180 := ⟨Tryz.f180, _, _, Tryz.func180, rfl, rfl, by kernel_rfl, by kernel_rfl, g180.h⟩
def g180_l0 : Got ((loopsM m180).getD 0 .bad) := by
 refine ⟨?m, ?h⟩
 case h => conv => lhs; cbv
def m180_l0 : M := g180_l0.m
theorem u180_l0 {C : Ctx} {k : List It} {st : St} {Q : Ex → St → Prop} : RunK C (.code m180_l0 :: k) st Q ↔ RunK C (.code g180_l0.m :: k) st Q := Iff.rfl
def g181 : Got (cmp 52 (kpL passing [] [[0, 1, 2, 3], [0, 2], [0, 2], [0, 2, 6], [0, 2, 6], [0, 1, 2, 3], [0, 1, 2, 3, 7], [0, 1, 2, 3, 7], [0, 1, 2, 3, 7, 8], [0, 1, 2, 3, 7], [0, 2]]) (bodyOf Tryz.f181)) := by
 refine ⟨?m, ?h⟩
 case h => conv => lhs; cbv
def m181 : M := g181.m
def fn181 : MFn := ⟨52, [], m181, .pass⟩
theorem fnOk181 : FnOk Tryz.prog 181 fn181 := ⟨Tryz.f181, _, _, Tryz.func181, rfl, rfl, by kernel_rfl, by kernel_rfl, g181.h⟩
def g183 : Got (cmp 8 (kpL passing [] [[0, 1], [0, 1]]) (bodyOf Tryz.f183)) := by
 refine ⟨?m, ?h⟩
 case h => conv => lhs; cbv
def m183 : M := g183.m
def fn183 : MFn := ⟨8, [.tmp 4], m183, .shut⟩
theorem fnOk183 : FnOk Tryz.prog 183 fn183 := ⟨Tryz.f183, _, _, Tryz.func183, rfl, rfl, by kernel_rfl, by kernel_rfl, g183.h⟩
def g184 : Got (cmp 143 (kpL passing [] [[0, 1], [0, 1], [0, 1, 5], [], [0, 1, 5], [0, 1], [0, 1, 5], [], [0, 1, 5], [0, 1], [0, 1, 5], [0, 1, 5, 6], [0, 1, 5, 6, 7], [0, 1, 5, 6, 7, 8], [0, 1, 5, 6, 7, 8, 9], [0, 1, 5, 6, 7, 8, 9, 10], [0, 1, 5, 6, 7, 8, 9, 10], [0, 1, 5, 6, 7, 8, 9, 10], [0, 1, 5, 6, 7, 8, 9, 10, 11], [], [0, 1, 5, 6, 7, 8, 9, 10, 11], [0, 1, 5, 6, 7, 8, 9, 10], [8], [0, 1, 5, 6, 7, 8, 9, 10], [0, 1, 5, 6, 7, 8, 9, 10], [0, 1, 5, 6, 7, 8, 9, 10], [0, 1, 8], [8, 12], [8, 12], [], [0, 1, 5, 6, 7, 8, 9, 10], [0, 1, 8], [8, 13], [], [8, 13], []]) (bodyOf Tryz.f184)) := by
 refine ⟨?m, ?h⟩
 case h => conv => lhs; cbv
def m184 : M := g184.m
def fn184 : MFn := ⟨143, [.tmp 4], m184, .shut⟩
theorem fnOk184 : FnOk Tryz.prog 184 fn184 := ⟨Tryz.f184, _, _, Tryz.func184, rfl, rfl, by kernel_rfl, by kernel_rfl, g184.h⟩
def g185 : Got (cmp 27 (kpL passing [2, 3, 4] [[0], [0, 2, 3, 4], [2, 3, 4], [0, 2, 3, 4], [2, 3, 4, 5], [2, 3, 4, 15, 16], [2, 3, 4, 6, 16], [2, 3, 4, 6, 7], [2, 3, 4, 6, 7], [2, 6], [2, 3, 4]]) (bodyOf Tryz.f185)) := by
 refine ⟨?m, ?h⟩
 case h => conv => lhs; reduce
def m185 : M := g185.m
def fn185 : MFn := ⟨27, [.cell 2 270, .cell 3 3, .cell 4 100], m185, .shut⟩
theorem fnOk185 : FnOk Tryz.prog 185 fn185 := ⟨Tryz.f185, _, _, Tryz.func185, rfl, rfl, by kernel_rfl, by kernel_rfl, g185.h⟩
def g186 : Got (cmp 55 (kpL passing [] [[0], [0], [], [0], [0, 3], [0, 3, 4], [0, 3, 4], [0, 3, 4], [], [0, 3, 4], [0, 3, 4], [0, 3]]) (bodyOf Tryz.f186)) := by
 refine ⟨?m, ?h⟩
 case h => conv => lhs; cbv
def m186 : M := g186.m
def fn186 : MFn := ⟨55, [.tmp 2], m186, .shut⟩
theorem fnOk186 : FnOk Tryz.prog 186 fn186 := ⟨Tryz.f186, _, _, Tryz.func186, rfl, rfl, by kernel_rfl, by kernel_rfl, g186.h⟩
def g187 : Got (cmp 9 (kpL passing [] [[0, 1], [0, 1]]) (bodyOf Tryz.f187)) := by
 refine ⟨?m, ?h⟩
 case h => conv => lhs; cbv
def m187 : M := g187.m
def fn187 : MFn := ⟨9, [.tmp 4], m187, .shut⟩
theorem fnOk187 : FnOk Tryz.prog 187 fn187 := ⟨Tryz.f187, _, _, Tryz.func187, rfl, rfl, by kernel_rfl, by kernel_rfl, g187.h⟩
def g188 : Got (cmp 14 (kpL passing [] [[0], [1]]) (bodyOf Tryz.f188)) := by
 refine ⟨?m, ?h⟩
 case h => conv => lhs; cbv
def m188 : M := g188.m
def fn188 : MFn := ⟨14, [.tmp 2], m188, .pass⟩
theorem fnOk188 : FnOk Tryz.prog 188 fn188 := ⟨Tryz.f188, _, _, Tryz.func188, rfl, rfl, by kernel_rfl, by kernel_rfl, g188.h⟩
def g189 : Got (cmp 141 (kpL passing [] [[0, 1, 2, 3], [0, 1, 2, 3], [], [0, 1, 2, 3], [0, 1, 2, 3, 9], [], [0, 1, 2, 3, 9, 35], [0, 9], [0, 1, 2, 3, 9, 35], [0, 1], [0, 1, 2, 3, 9, 35], [0, 2], [0, 1, 2, 3, 9, 35], [0, 1, 2, 3, 9, 35], [0, 1, 2, 3, 9], [], [0, 1, 2, 3, 9, 35], [0, 1, 2, 3, 9], [], [0, 1, 2, 3], [0, 1, 2, 3, 124, 125], [0, 1, 2, 3, 124, 125], [0, 1, 2, 3, 10, 124, 125], [], [0, 1, 2, 3, 124, 125], []]) (bodyOf Tryz.f189)) := by
 refine ⟨?m, ?h⟩
 case h => conv => lhs; cbv
def m189 : M := g189.m
def fn189 : MFn := ⟨141, [.tmp 8], m189, .shut⟩
theorem fnOk189 : FnOk Tryz.prog 189 fn189 := ⟨Tryz.f189, _, _, Tryz.func189, rfl, rfl, by kernel_rfl, by kernel_rfl, g189.h⟩
def g190 : Got (cmp 7 (kpL passing [] [[], []]) (bodyOf Tryz.f190)) := by
 refine ⟨?m, ?h⟩
 case h => conv => lhs; cbv
def m190 : M := g190.m
def fn190 : MFn := ⟨7, [.tmp 0], m190, .shut⟩
theorem fnOk190 : FnOk Tryz.prog 190 fn190 := ⟨Tryz.f190, _, _, Tryz.func190, rfl, rfl, by kernel_rfl, by kernel_rfl, g190.h⟩
def g192 : Got (cmp 8 (kpL passing [] [[0, 1], [0, 1]]) (bodyOf Tryz.f192)) := by
 refine ⟨?m, ?h⟩
 case h => conv => lhs; cbv
def m192 : M := g192.m
def fn192 : MFn := ⟨8, [.tmp 4], m192, .shut⟩
theorem fnOk192 : FnOk Tryz.prog 192 fn192 := ⟨Tryz.f192, _, _, Tryz.func192, rfl, rfl, by kernel_rfl, by kernel_rfl, g192.h⟩
def g196 : Got (cmp 4 (kpL passing [] [[0], [1]]) (bodyOf Tryz.f196)) := by
 refine ⟨?m, ?h⟩
 case h => conv => lhs; cbv
def m196 : M := g196.m
def fn196 : MFn := ⟨4, [.tmp 2], m196, .pass⟩
theorem fnOk196 : FnOk Tryz.prog 196 fn196 := ⟨Tryz.f196, _, _, Tryz.func196, rfl, rfl, by kernel_rfl, by kernel_rfl, g196.h⟩
def g197 : Got (cmp 47 (kpL passing [] [[0], [0], [], [0], [], [0], [25], [25], [], [25], [], [25], [], [25], [], [25], [25], [25], [25], [25], [25], [25], [25], [25], [25], [25], [], []]) (bodyOf Tryz.f197)) := by
 refine ⟨?m, ?h⟩
 case h => conv => lhs; cbv
def m197 : M := g197.m
def fn197 : MFn := ⟨47, [.tmp 2], m197, .shut⟩
theorem fnOk197 : FnOk Tryz.prog 197 fn197 := ⟨Tryz.f197, _, _, Tryz.func197, rfl, rfl, by kernel_rfl, by kernel_rfl, g197.h⟩
def g198 : Got (cmp 22 (kpL passing [] [[0], [0], [3], [3], [3], [3], [3], [3], [3], [3], [3], [3], [3], [3], [3], [3], [3], [3], [3], [], []]) (bodyOf Tryz.f198)) := by
 refine ⟨?m, ?h⟩
 case h => conv => lhs; cbv
def m198 : M := g198.m
def fn198 : MFn := ⟨22, [.tmp 2], m198, .shut⟩
theorem fnOk198 : FnOk Tryz.prog 198 fn198 := ⟨Tryz.f198, _, _, Tryz.func198, rfl, rfl, by kernel_rfl, by kernel_rfl, g198.h⟩
def g200 : Got (cmp 19 (kpL passing [] [[0, 1], [0, 1], [0, 1, 7, 8], [0, 1, 7, 8], [0, 1, 5, 7, 8], [5], [0, 1, 7, 8], []]) (bodyOf Tryz.f200)) := by
 refine ⟨?m, ?h⟩
 case h => conv => lhs; cbv
def m200 : M := g200.m
def fn200 : MFn := ⟨19, [.tmp 4], m200, .shut⟩
theorem fnOk200 : FnOk Tryz.prog 200 fn200 := ⟨Tryz.f200, _, _, Tryz.func200, rfl, rfl, by kernel_rfl, by kernel_rfl, g200.h⟩
def g220 : Got (cmp 23 (kpL passing [] [[0, 1], [0, 1, 3, 4], [0, 1, 3], [0, 1, 3], [0, 1, 3], [0, 1, 22]]) (bodyOf Tryz.f220)) := by
 refine ⟨?m, ?h⟩
 case h => conv => lhs; reduce
def m220 : M := g220.m
def fn220 : MFn := ⟨23, [], m220, .pass⟩
theorem fnOk220 : FnOk Tryz.prog 220 fn220 := ⟨Tryz.f220, _, _, Tryz.func220, rfl, rfl, by kernel_rfl, by kernel_rfl, g220.h⟩
def g221 : Got (cmp 57 (kpL passing [] [[0], [0, 2], [0, 2], [0, 2], [0, 2], [0, 2], [0, 2, 4], [0, 2, 4, 5], [0, 2, 4, 5], [0, 2, 4], [2, 4], [0, 2, 5], [2]]) (bodyOf Tryz.f221)) := by
 refine ⟨?m, ?h⟩
 case h => conv => lhs; reduce
def m221 : M := g221.m
def fn221 : MFn := ⟨57, [.cell 2 275, .tmp 3], m221, .pass⟩
theorem fnOk221 : FnOk Tryz.prog 221 fn221 := ⟨Tryz.f221, _, _, Tryz.func221, rfl, rfl, by kernel_rfl, by kernel_rfl, g221.h⟩
def g222 : Got (cmp 30 (kpL passing [] [[0], [1], [1, 6], [1], [], [1, 6], [1], [4], [], [1, 6], [1], [], []]) (bodyOf Tryz.f222)) := by
 refine ⟨?m, ?h⟩
 case h => conv => lhs; cbv
def m222 : M := g222.m
def fn222 : MFn := ⟨30, [.tmp 2], m222, .shut⟩
theorem fnOk222 : FnOk Tryz.prog 222 fn222 := ⟨Tryz.f222, _, _, Tryz.func222, rfl, rfl, by kernel_rfl, by kernel_rfl, g222.h⟩
def g224 : Got (cmp 50 (kpL passing [] [[0], [0], [0], [0], [0]]) (bodyOf Tryz.f224)) := by
 refine ⟨?m, ?h⟩
 case h => conv => lhs; reduce
def m224 : M := g224.m
def fn224 : MFn := ⟨50, [], m224, .pass⟩
theorem fnOk224 : FnOk Tryz.prog 224 fn224 := ⟨Tryz.f224, _, _, Tryz.func224, rfl, rfl, by kernel_rfl, by kernel_rfl, g224.h⟩
def g225 : Got (cmp 18 (kpL passing [] [[0], [0]]) (bodyOf Tryz.f225)) := by
 refine ⟨?m, ?h⟩
 case h => conv => lhs; reduce
def m225 : M := g225.m
def fn225 : MFn := ⟨18, [.tmp 2], m225, .pass⟩
theorem fnOk225 : FnOk Tryz.prog 225 fn225 := ⟨Tryz.f225, _, _, Tryz.func225, rfl, rfl, by kernel_rfl, by kernel_rfl, g225.h⟩
def g226 : Got (cmp 51 (kpL passing [] [[0], [0, 2], [0, 2, 3, 4], [0, 2, 3, 4, 17], [0, 2], [0, 2, 3, 4, 17], [0, 2], [0, 2, 3, 4], [0, 2, 3, 4, 5], [0, 2, 3, 5]]) (bodyOf Tryz.f226)) := by
 refine ⟨?m, ?h⟩
 case h => conv => lhs; reduce
def m226 : M := g226.m
def fn226 : MFn := ⟨51, [.cell 2 275], m226, .pass⟩
theorem fnOk226 : FnOk Tryz.prog 226 fn226 := ⟨Tryz.f226, _, _, Tryz.func226, rfl, rfl, by kernel_rfl, by kernel_rfl, g226.h⟩
def g227 : Got (cmp 13 (kpL passing [] [[0], [0]]) (bodyOf Tryz.f227)) := by
 refine ⟨?m, ?h⟩
 case h => conv => lhs; reduce
def m227 : M := g227.m
def fn227 : MFn := ⟨13, [.tmp 2], m227, .pass⟩
theorem fnOk227 : FnOk Tryz.prog 227 fn227 := ⟨Tryz.f227, _, _, Tryz.func227, rfl, rfl, by kernel_rfl, by kernel_rfl, g227.h⟩
def g230 : Got (cmp 28 (kpL passing [] [[0], [0], [0, 3], [0, 3], [3]]) (bodyOf Tryz.f230)) := by
 refine ⟨?m, ?h⟩
 case h => conv => lhs; cbv
def m230 : M := g230.m
def fn230 : MFn := ⟨28, [.tmp 2], m230, .pass⟩
theorem fnOk230 : FnOk Tryz.prog 230 fn230 := ⟨Tryz.f230, _, _, Tryz.func230, rfl, rfl, by kernel_rfl, by kernel_rfl, g230.h⟩
end Go.Proofs.YtnhknhniemfnjaaGreatDoor.Ev
namespace Go.Proofs.YtnhknhniemfnjaaGreatDoor.Ev
open Go Go.RowKit
set_option maxRecDepth 100000
def glList : List (Nat × List Value) := [(2, [.int .u8 0, .int .u8 1, .int .u8 56, .int .u8 2, .int .u8 57, .int .u8 49, .int .u8 28, .int .u8 3, .int .u8 61, .int .u8 58, .int .u8 42, .int .u8 50, .int .u8 38, .int .u8 29, .int .u8 17, .int .u8 4, .int .u8 62, .int .u8 47, .int .u8 59, .int .u8 36, .int .u8 45, .int .u8 43, .int .u8 51, .int .u8 22, .int .u8 53, .int .u8 39, .int .u8 33, .int .u8 30, .int .u8 24, .int .u8 18, .int .u8 12, .int .u8 5, .int .u8 63, .int .u8 55, .int .u8 48, .int .u8 27, .int .u8 60, .int .u8 41, .int .u8 37, .int .u8 16, .int .u8 46, .int .u8 35, .int .u8 44, .int .u8 21, .int .u8 52, .int .u8 32, .int .u8 23, .int .u8 11, .int .u8 54, .int .u8 26, .int .u8 40, .int .u8 15, .int .u8 34, .int .u8 20, .int .u8 31, .int .u8 10, .int .u8 25, .int .u8 14, .int .u8 19, .int .u8 9, .int .u8 13, .int .u8 8, .int .u8 7, .int .u8 6]), (6, [.int .u8 128, .int .u8 191, .int .u8 160, .int .u8 191, .int .u8 128, .int .u8 159, .int .u8 144, .int .u8 191, .int .u8 128, .int .u8 143, .int .u8 0, .int .u8 0, .int .u8 0, .int .u8 0, .int .u8 0, .int .u8 0, .int .u8 0, .int .u8 0, .int .u8 0, .int .u8 0, .int .u8 0, .int .u8 0, .int .u8 0, .int .u8 0, .int .u8 0, .int .u8 0, .int .u8 0, .int .u8 0, .int .u8 0, .int .u8 0, .int .u8 0, .int .u8 0]), (0, [.int .i64 4, .int .i64 2, .int .i64 4, .int .i64 4, .int .i64 4]), (7, [.int .u8 0, .int .u8 35, .int .u8 38, .int .u8 29, .int .u8 7, .int .u8 7, .int .u8 15, .int .u8 32, .int .u8 92]), (1, [.int .u8 0, .int .u8 96, .int .u8 96, .int .u8 104, .int .u8 96, .int .u8 104, .int .u8 145, .int .u8 147, .int .u8 145, .int .u8 144, .int .u8 190, .int .u8 146, .int .u8 160]), (3, [.string ⟨#[]⟩, .string ⟨#[]⟩, .string ⟨#[]⟩, .string ⟨#[]⟩, .string ⟨#[]⟩, .string ⟨#[]⟩, .string ⟨#[]⟩, .string ⟨#[]⟩, .string ⟨#[]⟩, .string ⟨#[]⟩, .string ⟨#[]⟩, .string ⟨#[]⟩, .string ⟨#[]⟩, .string ⟨#[]⟩, .string ⟨#[]⟩, .string ⟨#[73]⟩, .string ⟨#[83]⟩, .string ⟨#[69]⟩, .string ⟨#[79]⟩, .string ⟨#[77]⟩, .string ⟨#[73, 83]⟩, .string ⟨#[73, 77]⟩, .string ⟨#[83, 77]⟩, .string ⟨#[79, 77]⟩, .string ⟨#[73, 65]⟩, .string ⟨#[77, 73]⟩, .string ⟨#[73, 73]⟩, .string ⟨#[]⟩, .string ⟨#[]⟩, .string ⟨#[]⟩, .string ⟨#[108, 111, 97, 100]⟩, .string ⟨#[115, 116, 111, 114, 101]⟩, .string ⟨#[101, 118, 105, 99, 116]⟩, .string ⟨#[102, 119, 100, 115]⟩, .string ⟨#[102, 119, 100, 109]⟩, .string ⟨#[105, 110, 118]⟩, .string ⟨#[112, 117, 116]⟩, .string ⟨#[118, 97, 108, 117, 101]⟩, .string ⟨#[97, 108, 111, 110, 101]⟩, .string ⟨#[109, 111, 114, 101]⟩, .string ⟨#[103, 114, 97, 110, 116]⟩, .string ⟨#[115, 111, 111, 110]⟩, .string ⟨#[97, 99, 107]⟩, .string ⟨#[108, 97, 115, 116]⟩, .string ⟨#[]⟩, .string ⟨#[116, 97, 107, 101]⟩, .string ⟨#[97, 115, 107]⟩, .string ⟨#[97, 115, 107, 109]⟩, .string ⟨#[112, 117, 116]⟩, .string ⟨#[103, 105, 118, 101]⟩, .string ⟨#[99, 111, 112, 121]⟩, .string ⟨#[105, 110, 118]⟩, .string ⟨#[100, 111, 110, 101]⟩, .string ⟨#[100, 111]⟩, .string ⟨#[100, 114, 111, 112]⟩, .string ⟨#[]⟩, .string ⟨#[]⟩, .string ⟨#[]⟩, .string ⟨#[]⟩, .string ⟨#[]⟩, .string ⟨#[85, 110]⟩, .string ⟨#[83, 104]⟩, .string ⟨#[69, 120]⟩, .string ⟨#[79, 119]⟩, .string ⟨#[]⟩, .string ⟨#[]⟩, .string ⟨#[]⟩, .string ⟨#[]⟩, .string ⟨#[]⟩, .string ⟨#[]⟩, .string ⟨#[]⟩, .string ⟨#[]⟩, .string ⟨#[]⟩, .string ⟨#[]⟩, .string ⟨#[]⟩, .string ⟨#[103, 101, 116, 115]⟩, .string ⟨#[103, 101, 116, 109]⟩, .string ⟨#[117, 112]⟩, .string ⟨#[98, 97, 99, 107]⟩, .string ⟨#[115, 116, 97, 108, 101]⟩, .string ⟨#[]⟩, .string ⟨#[]⟩, .string ⟨#[]⟩, .string ⟨#[]⟩, .string ⟨#[]⟩, .string ⟨#[]⟩, .string ⟨#[]⟩, .string ⟨#[]⟩, .string ⟨#[]⟩, .string ⟨#[]⟩, .string ⟨#[105, 110, 118, 115]⟩, .string ⟨#[109, 101, 109]⟩, .string ⟨#[97, 108, 111, 110, 101]⟩, .string ⟨#[102, 119, 100, 115]⟩, .string ⟨#[102, 119, 100, 109]⟩, .string ⟨#[103, 114, 97, 110, 116]⟩, .string ⟨#[119, 114, 105, 116, 101]⟩, .string ⟨#[98, 97, 99, 107]⟩, .string ⟨#[99, 108, 101, 97, 114]⟩, .string ⟨#[110, 111, 116, 101]⟩, .string ⟨#[98, 111, 116, 104]⟩, .string ⟨#[111, 119, 110]⟩, .string ⟨#[102, 114, 101, 101]⟩, .string ⟨#[98, 117, 115, 121]⟩, .string ⟨#[116, 119, 105, 99, 101]⟩])]
def tyTree : BT Ty := (.node 124 ty124 (.node 58 ty58 (.node 36 ty36 (.node 24 ty24 (.node 9 ty9 (.node 4 ty4 (.node 3 ty3 .nil .nil) (.node 5 ty5 .nil .nil)) (.node 22 ty22 (.node 21 ty21 .nil .nil) (.node 23 ty23 .nil .nil))) (.node 31 ty31 (.node 27 ty27 (.node 25 ty25 .nil .nil) (.node 29 ty29 .nil .nil)) (.node 34 ty34 (.node 33 ty33 .nil .nil) .nil))) (.node 45 ty45 (.node 40 ty40 (.node 38 ty38 (.node 37 ty37 .nil .nil) (.node 39 ty39 .nil .nil)) (.node 44 ty44 (.node 42 ty42 .nil .nil) .nil)) (.node 52 ty52 (.node 48 ty48 (.node 47 ty47 .nil .nil) (.node 50 ty50 .nil .nil)) (.node 57 ty57 (.node 56 ty56 .nil .nil) .nil)))) (.node 85 ty85 (.node 69 ty69 (.node 63 ty63 (.node 61 ty61 (.node 59 ty59 .nil .nil) (.node 62 ty62 .nil .nil)) (.node 66 ty66 (.node 65 ty65 .nil .nil) (.node 67 ty67 .nil .nil))) (.node 81 ty81 (.node 71 ty71 (.node 70 ty70 .nil .nil) (.node 77 ty77 .nil .nil)) (.node 84 ty84 (.node 83 ty83 .nil .nil) .nil))) (.node 100 ty100 (.node 95 ty95 (.node 88 ty88 (.node 87 ty87 .nil .nil) (.node 90 ty90 .nil .nil)) (.node 98 ty98 (.node 97 ty97 .nil .nil) .nil)) (.node 111 ty111 (.node 106 ty106 (.node 103 ty103 .nil .nil) (.node 108 ty108 .nil .nil)) (.node 122 ty122 (.node 120 ty120 .nil .nil) .nil))))) (.node 237 ty237 (.node 181 ty181 (.node 153 ty153 (.node 142 ty142 (.node 127 ty127 (.node 126 ty126 .nil .nil) (.node 140 ty140 .nil .nil)) (.node 150 ty150 (.node 148 ty148 .nil .nil) (.node 152 ty152 .nil .nil))) (.node 170 ty170 (.node 164 ty164 (.node 155 ty155 .nil .nil) (.node 168 ty168 .nil .nil)) (.node 178 ty178 (.node 177 ty177 .nil .nil) .nil))) (.node 209 ty209 (.node 204 ty204 (.node 200 ty200 (.node 194 ty194 .nil .nil) (.node 203 ty203 .nil .nil)) (.node 207 ty207 (.node 206 ty206 .nil .nil) .nil)) (.node 225 ty225 (.node 216 ty216 (.node 211 ty211 .nil .nil) (.node 217 ty217 .nil .nil)) (.node 235 ty235 (.node 230 ty230 .nil .nil) .nil)))) (.node 280 ty280 (.node 264 ty264 (.node 254 ty254 (.node 249 ty249 (.node 239 ty239 .nil .nil) (.node 252 ty252 .nil .nil)) (.node 258 ty258 (.node 257 ty257 .nil .nil) .nil)) (.node 273 ty273 (.node 266 ty266 (.node 265 ty265 .nil .nil) (.node 270 ty270 .nil .nil)) (.node 278 ty278 (.node 275 ty275 .nil .nil) .nil))) (.node 292 ty292 (.node 287 ty287 (.node 283 ty283 (.node 282 ty282 .nil .nil) (.node 286 ty286 .nil .nil)) (.node 290 ty290 (.node 288 ty288 .nil .nil) .nil)) (.node 318 ty318 (.node 299 ty299 (.node 297 ty297 .nil .nil) (.node 304 ty304 .nil .nil)) (.node 345 ty345 (.node 328 ty328 .nil .nil) .nil))))))
def fnTree : BT MFn := (.node 104 fn104 (.node 55 fn55 (.node 30 fn30 (.node 18 fn18 (.node 12 fn12 (.node 9 fn9 (.node 6 fn6 (.node 5 fn5 .nil .nil) (.node 8 fn8 .nil .nil)) (.node 11 fn11 (.node 10 fn10 .nil .nil) .nil)) (.node 15 fn15 (.node 14 fn14 (.node 13 fn13 .nil .nil) .nil) (.node 17 fn17 (.node 16 fn16 .nil .nil) .nil))) (.node 24 fn24 (.node 21 fn21 (.node 20 fn20 (.node 19 fn19 .nil .nil) .nil) (.node 23 fn23 (.node 22 fn22 .nil .nil) .nil)) (.node 27 fn27 (.node 26 fn26 (.node 25 fn25 .nil .nil) .nil) (.node 29 fn29 (.node 28 fn28 .nil .nil) .nil)))) (.node 43 fn43 (.node 37 fn37 (.node 34 fn34 (.node 32 fn32 (.node 31 fn31 .nil .nil) (.node 33 fn33 .nil .nil)) (.node 36 fn36 (.node 35 fn35 .nil .nil) .nil)) (.node 40 fn40 (.node 39 fn39 (.node 38 fn38 .nil .nil) .nil) (.node 42 fn42 (.node 41 fn41 .nil .nil) .nil))) (.node 49 fn49 (.node 46 fn46 (.node 45 fn45 (.node 44 fn44 .nil .nil) .nil) (.node 48 fn48 (.node 47 fn47 .nil .nil) .nil)) (.node 52 fn52 (.node 51 fn51 (.node 50 fn50 .nil .nil) .nil) (.node 54 fn54 (.node 53 fn53 .nil .nil) .nil))))) (.node 80 fn80 (.node 68 fn68 (.node 62 fn62 (.node 59 fn59 (.node 57 fn57 (.node 56 fn56 .nil .nil) (.node 58 fn58 .nil .nil)) (.node 61 fn61 (.node 60 fn60 .nil .nil) .nil)) (.node 65 fn65 (.node 64 fn64 (.node 63 fn63 .nil .nil) .nil) (.node 67 fn67 (.node 66 fn66 .nil .nil) .nil))) (.node 74 fn74 (.node 71 fn71 (.node 70 fn70 (.node 69 fn69 .nil .nil) .nil) (.node 73 fn73 (.node 72 fn72 .nil .nil) .nil)) (.node 77 fn77 (.node 76 fn76 (.node 75 fn75 .nil .nil) .nil) (.node 79 fn79 (.node 78 fn78 .nil .nil) .nil)))) (.node 92 fn92 (.node 86 fn86 (.node 83 fn83 (.node 82 fn82 (.node 81 fn81 .nil .nil) .nil) (.node 85 fn85 (.node 84 fn84 .nil .nil) .nil)) (.node 89 fn89 (.node 88 fn88 (.node 87 fn87 .nil .nil) .nil) (.node 91 fn91 (.node 90 fn90 .nil .nil) .nil))) (.node 98 fn98 (.node 95 fn95 (.node 94 fn94 (.node 93 fn93 .nil .nil) .nil) (.node 97 fn97 (.node 96 fn96 .nil .nil) .nil)) (.node 101 fn101 (.node 100 fn100 (.node 99 fn99 .nil .nil) .nil) (.node 103 fn103 (.node 102 fn102 .nil .nil) .nil)))))) (.node 154 fn154 (.node 129 fn129 (.node 117 fn117 (.node 111 fn111 (.node 108 fn108 (.node 106 fn106 (.node 105 fn105 .nil .nil) (.node 107 fn107 .nil .nil)) (.node 110 fn110 (.node 109 fn109 .nil .nil) .nil)) (.node 114 fn114 (.node 113 fn113 (.node 112 fn112 .nil .nil) .nil) (.node 116 fn116 (.node 115 fn115 .nil .nil) .nil))) (.node 123 fn123 (.node 120 fn120 (.node 119 fn119 (.node 118 fn118 .nil .nil) .nil) (.node 122 fn122 (.node 121 fn121 .nil .nil) .nil)) (.node 126 fn126 (.node 125 fn125 (.node 124 fn124 .nil .nil) .nil) (.node 128 fn128 (.node 127 fn127 .nil .nil) .nil)))) (.node 142 fn142 (.node 136 fn136 (.node 132 fn132 (.node 131 fn131 (.node 130 fn130 .nil .nil) .nil) (.node 135 fn135 (.node 133 fn133 .nil .nil) .nil)) (.node 139 fn139 (.node 138 fn138 (.node 137 fn137 .nil .nil) .nil) (.node 141 fn141 (.node 140 fn140 .nil .nil) .nil))) (.node 148 fn148 (.node 145 fn145 (.node 144 fn144 (.node 143 fn143 .nil .nil) .nil) (.node 147 fn147 (.node 146 fn146 .nil .nil) .nil)) (.node 151 fn151 (.node 150 fn150 (.node 149 fn149 .nil .nil) .nil) (.node 153 fn153 (.node 152 fn152 .nil .nil) .nil))))) (.node 179 fn179 (.node 167 fn167 (.node 161 fn161 (.node 158 fn158 (.node 156 fn156 (.node 155 fn155 .nil .nil) (.node 157 fn157 .nil .nil)) (.node 160 fn160 (.node 159 fn159 .nil .nil) .nil)) (.node 164 fn164 (.node 163 fn163 (.node 162 fn162 .nil .nil) .nil) (.node 166 fn166 (.node 165 fn165 .nil .nil) .nil))) (.node 173 fn173 (.node 170 fn170 (.node 169 fn169 (.node 168 fn168 .nil .nil) .nil) (.node 172 fn172 (.node 171 fn171 .nil .nil) .nil)) (.node 176 fn176 (.node 175 fn175 (.node 174 fn174 .nil .nil) .nil) (.node 178 fn178 (.node 177 fn177 .nil .nil) .nil)))) (.node 196 fn196 (.node 186 fn186 (.node 183 fn183 (.node 181 fn181 (.node 180 fn180 .nil .nil) .nil) (.node 185 fn185 (.node 184 fn184 .nil .nil) .nil)) (.node 189 fn189 (.node 188 fn188 (.node 187 fn187 .nil .nil) .nil) (.node 192 fn192 (.node 190 fn190 .nil .nil) .nil))) (.node 222 fn222 (.node 200 fn200 (.node 198 fn198 (.node 197 fn197 .nil .nil) .nil) (.node 221 fn221 (.node 220 fn220 .nil .nil) .nil)) (.node 226 fn226 (.node 225 fn225 (.node 224 fn224 .nil .nil) .nil) (.node 230 fn230 (.node 227 fn227 .nil .nil) .nil)))))))
def Cx : Ctx := ⟨⟨tyTree.get, ⟨lookL glList, lkOf⟩⟩, fnTree.get, xLib, fun _ => none⟩
theorem CxOk : CtxOk Tryz.prog Cx := ctxOk_of (by kernel_rfl) ⟨tyOk124, ⟨tyOk58, ⟨tyOk36, ⟨tyOk24, ⟨tyOk9, ⟨tyOk4, ⟨tyOk3, trivial, trivial⟩, ⟨tyOk5, trivial, trivial⟩⟩, ⟨tyOk22, ⟨tyOk21, trivial, trivial⟩, ⟨tyOk23, trivial, trivial⟩⟩⟩, ⟨tyOk31, ⟨tyOk27, ⟨tyOk25, trivial, trivial⟩, ⟨tyOk29, trivial, trivial⟩⟩, ⟨tyOk34, ⟨tyOk33, trivial, trivial⟩, trivial⟩⟩⟩, ⟨tyOk45, ⟨tyOk40, ⟨tyOk38, ⟨tyOk37, trivial, trivial⟩, ⟨tyOk39, trivial, trivial⟩⟩, ⟨tyOk44, ⟨tyOk42, trivial, trivial⟩, trivial⟩⟩, ⟨tyOk52, ⟨tyOk48, ⟨tyOk47, trivial, trivial⟩, ⟨tyOk50, trivial, trivial⟩⟩, ⟨tyOk57, ⟨tyOk56, trivial, trivial⟩, trivial⟩⟩⟩⟩, ⟨tyOk85, ⟨tyOk69, ⟨tyOk63, ⟨tyOk61, ⟨tyOk59, trivial, trivial⟩, ⟨tyOk62, trivial, trivial⟩⟩, ⟨tyOk66, ⟨tyOk65, trivial, trivial⟩, ⟨tyOk67, trivial, trivial⟩⟩⟩, ⟨tyOk81, ⟨tyOk71, ⟨tyOk70, trivial, trivial⟩, ⟨tyOk77, trivial, trivial⟩⟩, ⟨tyOk84, ⟨tyOk83, trivial, trivial⟩, trivial⟩⟩⟩, ⟨tyOk100, ⟨tyOk95, ⟨tyOk88, ⟨tyOk87, trivial, trivial⟩, ⟨tyOk90, trivial, trivial⟩⟩, ⟨tyOk98, ⟨tyOk97, trivial, trivial⟩, trivial⟩⟩, ⟨tyOk111, ⟨tyOk106, ⟨tyOk103, trivial, trivial⟩, ⟨tyOk108, trivial, trivial⟩⟩, ⟨tyOk122, ⟨tyOk120, trivial, trivial⟩, trivial⟩⟩⟩⟩⟩, ⟨tyOk237, ⟨tyOk181, ⟨tyOk153, ⟨tyOk142, ⟨tyOk127, ⟨tyOk126, trivial, trivial⟩, ⟨tyOk140, trivial, trivial⟩⟩, ⟨tyOk150, ⟨tyOk148, trivial, trivial⟩, ⟨tyOk152, trivial, trivial⟩⟩⟩, ⟨tyOk170, ⟨tyOk164, ⟨tyOk155, trivial, trivial⟩, ⟨tyOk168, trivial, trivial⟩⟩, ⟨tyOk178, ⟨tyOk177, trivial, trivial⟩, trivial⟩⟩⟩, ⟨tyOk209, ⟨tyOk204, ⟨tyOk200, ⟨tyOk194, trivial, trivial⟩, ⟨tyOk203, trivial, trivial⟩⟩, ⟨tyOk207, ⟨tyOk206, trivial, trivial⟩, trivial⟩⟩, ⟨tyOk225, ⟨tyOk216, ⟨tyOk211, trivial, trivial⟩, ⟨tyOk217, trivial, trivial⟩⟩, ⟨tyOk235, ⟨tyOk230, trivial, trivial⟩, trivial⟩⟩⟩⟩, ⟨tyOk280, ⟨tyOk264, ⟨tyOk254, ⟨tyOk249, ⟨tyOk239, trivial, trivial⟩, ⟨tyOk252, trivial, trivial⟩⟩, ⟨tyOk258, ⟨tyOk257, trivial, trivial⟩, trivial⟩⟩, ⟨tyOk273, ⟨tyOk266, ⟨tyOk265, trivial, trivial⟩, ⟨tyOk270, trivial, trivial⟩⟩, ⟨tyOk278, ⟨tyOk275, trivial, trivial⟩, trivial⟩⟩⟩, ⟨tyOk292, ⟨tyOk287, ⟨tyOk283, ⟨tyOk282, trivial, trivial⟩, ⟨tyOk286, trivial, trivial⟩⟩, ⟨tyOk290, ⟨tyOk288, trivial, trivial⟩, trivial⟩⟩, ⟨tyOk318, ⟨tyOk299, ⟨tyOk297, trivial, trivial⟩, ⟨tyOk304, trivial, trivial⟩⟩, ⟨tyOk345, ⟨tyOk328, trivial, trivial⟩, trivial⟩⟩⟩⟩⟩⟩ ⟨fnOk104, ⟨fnOk55, ⟨fnOk30, ⟨fnOk18, ⟨fnOk12, ⟨fnOk9, ⟨fnOk6, ⟨fnOk5, trivial, trivial⟩, ⟨fnOk8, trivial, trivial⟩⟩, ⟨fnOk11, ⟨fnOk10, trivial, trivial⟩, trivial⟩⟩, ⟨fnOk15, ⟨fnOk14, ⟨fnOk13, trivial, trivial⟩, trivial⟩, ⟨fnOk17, ⟨fnOk16, trivial, trivial⟩, trivial⟩⟩⟩, ⟨fnOk24, ⟨fnOk21, ⟨fnOk20, ⟨fnOk19, trivial, trivial⟩, trivial⟩, ⟨fnOk23, ⟨fnOk22, trivial, trivial⟩, trivial⟩⟩, ⟨fnOk27, ⟨fnOk26, ⟨fnOk25, trivial, trivial⟩, trivial⟩, ⟨fnOk29, ⟨fnOk28, trivial, trivial⟩, trivial⟩⟩⟩⟩, ⟨fnOk43, ⟨fnOk37, ⟨fnOk34, ⟨fnOk32, ⟨fnOk31, trivial, trivial⟩, ⟨fnOk33, trivial, trivial⟩⟩, ⟨fnOk36, ⟨fnOk35, trivial, trivial⟩, trivial⟩⟩, ⟨fnOk40, ⟨fnOk39, ⟨fnOk38, trivial, trivial⟩, trivial⟩, ⟨fnOk42, ⟨fnOk41, trivial, trivial⟩, trivial⟩⟩⟩, ⟨fnOk49, ⟨fnOk46, ⟨fnOk45, ⟨fnOk44, trivial, trivial⟩, trivial⟩, ⟨fnOk48, ⟨fnOk47, trivial, trivial⟩, trivial⟩⟩, ⟨fnOk52, ⟨fnOk51, ⟨fnOk50, trivial, trivial⟩, trivial⟩, ⟨fnOk54, ⟨fnOk53, trivial, trivial⟩, trivial⟩⟩⟩⟩⟩, ⟨fnOk80, ⟨fnOk68, ⟨fnOk62, ⟨fnOk59, ⟨fnOk57, ⟨fnOk56, trivial, trivial⟩, ⟨fnOk58, trivial, trivial⟩⟩, ⟨fnOk61, ⟨fnOk60, trivial, trivial⟩, trivial⟩⟩, ⟨fnOk65, ⟨fnOk64, ⟨fnOk63, trivial, trivial⟩, trivial⟩, ⟨fnOk67, ⟨fnOk66, trivial, trivial⟩, trivial⟩⟩⟩, ⟨fnOk74, ⟨fnOk71, ⟨fnOk70, ⟨fnOk69, trivial, trivial⟩, trivial⟩, ⟨fnOk73, ⟨fnOk72, trivial, trivial⟩, trivial⟩⟩, ⟨fnOk77, ⟨fnOk76, ⟨fnOk75, trivial, trivial⟩, trivial⟩, ⟨fnOk79, ⟨fnOk78, trivial, trivial⟩, trivial⟩⟩⟩⟩, ⟨fnOk92, ⟨fnOk86, ⟨fnOk83, ⟨fnOk82, ⟨fnOk81, trivial, trivial⟩, trivial⟩, ⟨fnOk85, ⟨fnOk84, trivial, trivial⟩, trivial⟩⟩, ⟨fnOk89, ⟨fnOk88, ⟨fnOk87, trivial, trivial⟩, trivial⟩, ⟨fnOk91, ⟨fnOk90, trivial, trivial⟩, trivial⟩⟩⟩, ⟨fnOk98, ⟨fnOk95, ⟨fnOk94, ⟨fnOk93, trivial, trivial⟩, trivial⟩, ⟨fnOk97, ⟨fnOk96, trivial, trivial⟩, trivial⟩⟩, ⟨fnOk101, ⟨fnOk100, ⟨fnOk99, trivial, trivial⟩, trivial⟩, ⟨fnOk103, ⟨fnOk102, trivial, trivial⟩, trivial⟩⟩⟩⟩⟩⟩, ⟨fnOk154, ⟨fnOk129, ⟨fnOk117, ⟨fnOk111, ⟨fnOk108, ⟨fnOk106, ⟨fnOk105, trivial, trivial⟩, ⟨fnOk107, trivial, trivial⟩⟩, ⟨fnOk110, ⟨fnOk109, trivial, trivial⟩, trivial⟩⟩, ⟨fnOk114, ⟨fnOk113, ⟨fnOk112, trivial, trivial⟩, trivial⟩, ⟨fnOk116, ⟨fnOk115, trivial, trivial⟩, trivial⟩⟩⟩, ⟨fnOk123, ⟨fnOk120, ⟨fnOk119, ⟨fnOk118, trivial, trivial⟩, trivial⟩, ⟨fnOk122, ⟨fnOk121, trivial, trivial⟩, trivial⟩⟩, ⟨fnOk126, ⟨fnOk125, ⟨fnOk124, trivial, trivial⟩, trivial⟩, ⟨fnOk128, ⟨fnOk127, trivial, trivial⟩, trivial⟩⟩⟩⟩, ⟨fnOk142, ⟨fnOk136, ⟨fnOk132, ⟨fnOk131, ⟨fnOk130, trivial, trivial⟩, trivial⟩, ⟨fnOk135, ⟨fnOk133, trivial, trivial⟩, trivial⟩⟩, ⟨fnOk139, ⟨fnOk138, ⟨fnOk137, trivial, trivial⟩, trivial⟩, ⟨fnOk141, ⟨fnOk140, trivial, trivial⟩, trivial⟩⟩⟩, ⟨fnOk148, ⟨fnOk145, ⟨fnOk144, ⟨fnOk143, trivial, trivial⟩, trivial⟩, ⟨fnOk147, ⟨fnOk146, trivial, trivial⟩, trivial⟩⟩, ⟨fnOk151, ⟨fnOk150, ⟨fnOk149, trivial, trivial⟩, trivial⟩, ⟨fnOk153, ⟨fnOk152, trivial, trivial⟩, trivial⟩⟩⟩⟩⟩, ⟨fnOk179, ⟨fnOk167, ⟨fnOk161, ⟨fnOk158, ⟨fnOk156, ⟨fnOk155, trivial, trivial⟩, ⟨fnOk157, trivial, trivial⟩⟩, ⟨fnOk160, ⟨fnOk159, trivial, trivial⟩, trivial⟩⟩, ⟨fnOk164, ⟨fnOk163, ⟨fnOk162, trivial, trivial⟩, trivial⟩, ⟨fnOk166, ⟨fnOk165, trivial, trivial⟩, trivial⟩⟩⟩, ⟨fnOk173, ⟨fnOk170, ⟨fnOk169, ⟨fnOk168, trivial, trivial⟩, trivial⟩, ⟨fnOk172, ⟨fnOk171, trivial, trivial⟩, trivial⟩⟩, ⟨fnOk176, ⟨fnOk175, ⟨fnOk174, trivial, trivial⟩, trivial⟩, ⟨fnOk178, ⟨fnOk177, trivial, trivial⟩, trivial⟩⟩⟩⟩, ⟨fnOk196, ⟨fnOk186, ⟨fnOk183, ⟨fnOk181, ⟨fnOk180, trivial, trivial⟩, trivial⟩, ⟨fnOk185, ⟨fnOk184, trivial, trivial⟩, trivial⟩⟩, ⟨fnOk189, ⟨fnOk188, ⟨fnOk187, trivial, trivial⟩, trivial⟩, ⟨fnOk192, ⟨fnOk190, trivial, trivial⟩, trivial⟩⟩⟩, ⟨fnOk222, ⟨fnOk200, ⟨fnOk198, ⟨fnOk197, trivial, trivial⟩, trivial⟩, ⟨fnOk221, ⟨fnOk220, trivial, trivial⟩, trivial⟩⟩, ⟨fnOk226, ⟨fnOk225, ⟨fnOk224, trivial, trivial⟩, trivial⟩, ⟨fnOk230, ⟨fnOk227, trivial, trivial⟩, trivial⟩⟩⟩⟩⟩⟩⟩ xLib_ok
theorem CxT3 : Cx.T 3 = some ty3 := by rfl
theorem CxT4 : Cx.T 4 = some ty4 := by rfl
theorem CxT5 : Cx.T 5 = some ty5 := by rfl
theorem CxT9 : Cx.T 9 = some ty9 := by rfl
theorem CxT21 : Cx.T 21 = some ty21 := by rfl
theorem CxT22 : Cx.T 22 = some ty22 := by rfl
theorem CxT23 : Cx.T 23 = some ty23 := by rfl
theorem CxT24 : Cx.T 24 = some ty24 := by rfl
theorem CxT25 : Cx.T 25 = some ty25 := by rfl
theorem CxT27 : Cx.T 27 = some ty27 := by rfl
theorem CxT29 : Cx.T 29 = some ty29 := by rfl
theorem CxT31 : Cx.T 31 = some ty31 := by rfl
theorem CxT33 : Cx.T 33 = some ty33 := by rfl
theorem CxT34 : Cx.T 34 = some ty34 := by rfl
theorem CxT36 : Cx.T 36 = some ty36 := by rfl
theorem CxT37 : Cx.T 37 = some ty37 := by rfl
theorem CxT38 : Cx.T 38 = some ty38 := by rfl
theorem CxT39 : Cx.T 39 = some ty39 := by rfl
theorem CxT40 : Cx.T 40 = some ty40 := by rfl
theorem CxT42 : Cx.T 42 = some ty42 := by rfl
theorem CxT44 : Cx.T 44 = some ty44 := by rfl
theorem CxT45 : Cx.T 45 = some ty45 := by rfl
theorem CxT47 : Cx.T 47 = some ty47 := by rfl
theorem CxT48 : Cx.T 48 = some ty48 := by rfl
theorem CxT50 : Cx.T 50 = some ty50 := by rfl
theorem CxT52 : Cx.T 52 = some ty52 := by rfl
theorem CxT56 : Cx.T 56 = some ty56 := by rfl
theorem CxT57 : Cx.T 57 = some ty57 := by rfl
theorem CxT58 : Cx.T 58 = some ty58 := by rfl
theorem CxT59 : Cx.T 59 = some ty59 := by rfl
theorem CxT61 : Cx.T 61 = some ty61 := by rfl
theorem CxT62 : Cx.T 62 = some ty62 := by rfl
theorem CxT63 : Cx.T 63 = some ty63 := by rfl
theorem CxT65 : Cx.T 65 = some ty65 := by rfl
theorem CxT66 : Cx.T 66 = some ty66 := by rfl
theorem CxT67 : Cx.T 67 = some ty67 := by rfl
theorem CxT69 : Cx.T 69 = some ty69 := by rfl
theorem CxT70 : Cx.T 70 = some ty70 := by rfl
theorem CxT71 : Cx.T 71 = some ty71 := by rfl
theorem CxT77 : Cx.T 77 = some ty77 := by rfl
theorem CxT81 : Cx.T 81 = some ty81 := by rfl
theorem CxT83 : Cx.T 83 = some ty83 := by rfl
theorem CxT84 : Cx.T 84 = some ty84 := by rfl
theorem CxT85 : Cx.T 85 = some ty85 := by rfl
theorem CxT87 : Cx.T 87 = some ty87 := by rfl
theorem CxT88 : Cx.T 88 = some ty88 := by rfl
theorem CxT90 : Cx.T 90 = some ty90 := by rfl
theorem CxT95 : Cx.T 95 = some ty95 := by rfl
theorem CxT97 : Cx.T 97 = some ty97 := by rfl
theorem CxT98 : Cx.T 98 = some ty98 := by rfl
theorem CxT100 : Cx.T 100 = some ty100 := by rfl
theorem CxT103 : Cx.T 103 = some ty103 := by rfl
theorem CxT106 : Cx.T 106 = some ty106 := by rfl
theorem CxT108 : Cx.T 108 = some ty108 := by rfl
theorem CxT111 : Cx.T 111 = some ty111 := by rfl
theorem CxT120 : Cx.T 120 = some ty120 := by rfl
theorem CxT122 : Cx.T 122 = some ty122 := by rfl
theorem CxT124 : Cx.T 124 = some ty124 := by rfl
theorem CxT126 : Cx.T 126 = some ty126 := by rfl
theorem CxT127 : Cx.T 127 = some ty127 := by rfl
theorem CxT140 : Cx.T 140 = some ty140 := by rfl
theorem CxT142 : Cx.T 142 = some ty142 := by rfl
theorem CxT148 : Cx.T 148 = some ty148 := by rfl
theorem CxT150 : Cx.T 150 = some ty150 := by rfl
theorem CxT152 : Cx.T 152 = some ty152 := by rfl
theorem CxT153 : Cx.T 153 = some ty153 := by rfl
theorem CxT155 : Cx.T 155 = some ty155 := by rfl
theorem CxT164 : Cx.T 164 = some ty164 := by rfl
theorem CxT168 : Cx.T 168 = some ty168 := by rfl
theorem CxT170 : Cx.T 170 = some ty170 := by rfl
theorem CxT177 : Cx.T 177 = some ty177 := by rfl
theorem CxT178 : Cx.T 178 = some ty178 := by rfl
theorem CxT181 : Cx.T 181 = some ty181 := by rfl
theorem CxT194 : Cx.T 194 = some ty194 := by rfl
theorem CxT200 : Cx.T 200 = some ty200 := by rfl
theorem CxT203 : Cx.T 203 = some ty203 := by rfl
theorem CxT204 : Cx.T 204 = some ty204 := by rfl
theorem CxT206 : Cx.T 206 = some ty206 := by rfl
theorem CxT207 : Cx.T 207 = some ty207 := by rfl
theorem CxT209 : Cx.T 209 = some ty209 := by rfl
theorem CxT211 : Cx.T 211 = some ty211 := by rfl
theorem CxT216 : Cx.T 216 = some ty216 := by rfl
theorem CxT217 : Cx.T 217 = some ty217 := by rfl
theorem CxT225 : Cx.T 225 = some ty225 := by rfl
theorem CxT230 : Cx.T 230 = some ty230 := by rfl
theorem CxT235 : Cx.T 235 = some ty235 := by rfl
theorem CxT237 : Cx.T 237 = some ty237 := by rfl
theorem CxT239 : Cx.T 239 = some ty239 := by rfl
theorem CxT249 : Cx.T 249 = some ty249 := by rfl
theorem CxT252 : Cx.T 252 = some ty252 := by rfl
theorem CxT254 : Cx.T 254 = some ty254 := by rfl
theorem CxT257 : Cx.T 257 = some ty257 := by rfl
theorem CxT258 : Cx.T 258 = some ty258 := by rfl
theorem CxT264 : Cx.T 264 = some ty264 := by rfl
theorem CxT265 : Cx.T 265 = some ty265 := by rfl
theorem CxT266 : Cx.T 266 = some ty266 := by rfl
theorem CxT270 : Cx.T 270 = some ty270 := by rfl
theorem CxT273 : Cx.T 273 = some ty273 := by rfl
theorem CxT275 : Cx.T 275 = some ty275 := by rfl
theorem CxT278 : Cx.T 278 = some ty278 := by rfl
theorem CxT280 : Cx.T 280 = some ty280 := by rfl
theorem CxT282 : Cx.T 282 = some ty282 := by rfl
theorem CxT283 : Cx.T 283 = some ty283 := by rfl
theorem CxT286 : Cx.T 286 = some ty286 := by rfl
theorem CxT287 : Cx.T 287 = some ty287 := by rfl
theorem CxT288 : Cx.T 288 = some ty288 := by rfl
theorem CxT290 : Cx.T 290 = some ty290 := by rfl
theorem CxT292 : Cx.T 292 = some ty292 := by rfl
theorem CxT297 : Cx.T 297 = some ty297 := by rfl
theorem CxT299 : Cx.T 299 = some ty299 := by rfl
theorem CxT304 : Cx.T 304 = some ty304 := by rfl
theorem CxT318 : Cx.T 318 = some ty318 := by rfl
theorem CxT328 : Cx.T 328 = some ty328 := by rfl
theorem CxT345 : Cx.T 345 = some ty345 := by rfl
theorem CxB5 : Cx.B 5 = some fn5 := by rfl
theorem CxB10 : Cx.B 10 = some fn10 := by rfl
theorem CxB11 : Cx.B 11 = some fn11 := by rfl
theorem CxB12 : Cx.B 12 = some fn12 := by rfl
theorem CxB13 : Cx.B 13 = some fn13 := by rfl
theorem CxB14 : Cx.B 14 = some fn14 := by rfl
theorem CxB15 : Cx.B 15 = some fn15 := by rfl
theorem CxB16 : Cx.B 16 = some fn16 := by rfl
theorem CxB17 : Cx.B 17 = some fn17 := by rfl
theorem CxB18 : Cx.B 18 = some fn18 := by rfl
theorem CxB22 : Cx.B 22 = some fn22 := by rfl
theorem CxB23 : Cx.B 23 = some fn23 := by rfl
theorem CxB24 : Cx.B 24 = some fn24 := by rfl
theorem CxB25 : Cx.B 25 = some fn25 := by rfl
theorem CxB26 : Cx.B 26 = some fn26 := by rfl
theorem CxB27 : Cx.B 27 = some fn27 := by rfl
theorem CxB28 : Cx.B 28 = some fn28 := by rfl
theorem CxB29 : Cx.B 29 = some fn29 := by rfl
theorem CxB30 : Cx.B 30 = some fn30 := by rfl
theorem CxB31 : Cx.B 31 = some fn31 := by rfl
theorem CxB32 : Cx.B 32 = some fn32 := by rfl
theorem CxB33 : Cx.B 33 = some fn33 := by rfl
theorem CxB34 : Cx.B 34 = some fn34 := by rfl
theorem CxB35 : Cx.B 35 = some fn35 := by rfl
theorem CxB36 : Cx.B 36 = some fn36 := by rfl
theorem CxB37 : Cx.B 37 = some fn37 := by rfl
theorem CxB38 : Cx.B 38 = some fn38 := by rfl
theorem CxB40 : Cx.B 40 = some fn40 := by rfl
theorem CxB41 : Cx.B 41 = some fn41 := by rfl
theorem CxB42 : Cx.B 42 = some fn42 := by rfl
theorem CxB43 : Cx.B 43 = some fn43 := by rfl
theorem CxB44 : Cx.B 44 = some fn44 := by rfl
theorem CxB45 : Cx.B 45 = some fn45 := by rfl
theorem CxB47 : Cx.B 47 = some fn47 := by rfl
theorem CxB48 : Cx.B 48 = some fn48 := by rfl
theorem CxB49 : Cx.B 49 = some fn49 := by rfl
theorem CxB50 : Cx.B 50 = some fn50 := by rfl
theorem CxB51 : Cx.B 51 = some fn51 := by rfl
theorem CxB52 : Cx.B 52 = some fn52 := by rfl
theorem CxB53 : Cx.B 53 = some fn53 := by rfl
theorem CxB54 : Cx.B 54 = some fn54 := by rfl
theorem CxB55 : Cx.B 55 = some fn55 := by rfl
theorem CxB56 : Cx.B 56 = some fn56 := by rfl
theorem CxB57 : Cx.B 57 = some fn57 := by rfl
theorem CxB58 : Cx.B 58 = some fn58 := by rfl
theorem CxB59 : Cx.B 59 = some fn59 := by rfl
theorem CxB60 : Cx.B 60 = some fn60 := by rfl
theorem CxB61 : Cx.B 61 = some fn61 := by rfl
theorem CxB62 : Cx.B 62 = some fn62 := by rfl
theorem CxB63 : Cx.B 63 = some fn63 := by rfl
theorem CxB64 : Cx.B 64 = some fn64 := by rfl
theorem CxB65 : Cx.B 65 = some fn65 := by rfl
theorem CxB66 : Cx.B 66 = some fn66 := by rfl
theorem CxB67 : Cx.B 67 = some fn67 := by rfl
theorem CxB68 : Cx.B 68 = some fn68 := by rfl
theorem CxB69 : Cx.B 69 = some fn69 := by rfl
theorem CxB73 : Cx.B 73 = some fn73 := by rfl
theorem CxB74 : Cx.B 74 = some fn74 := by rfl
theorem CxB82 : Cx.B 82 = some fn82 := by rfl
theorem CxB83 : Cx.B 83 = some fn83 := by rfl
theorem CxB84 : Cx.B 84 = some fn84 := by rfl
theorem CxB85 : Cx.B 85 = some fn85 := by rfl
theorem CxB86 : Cx.B 86 = some fn86 := by rfl
theorem CxB87 : Cx.B 87 = some fn87 := by rfl
theorem CxB88 : Cx.B 88 = some fn88 := by rfl
theorem CxB89 : Cx.B 89 = some fn89 := by rfl
theorem CxB90 : Cx.B 90 = some fn90 := by rfl
theorem CxB91 : Cx.B 91 = some fn91 := by rfl
theorem CxB95 : Cx.B 95 = some fn95 := by rfl
theorem CxB96 : Cx.B 96 = some fn96 := by rfl
theorem CxB97 : Cx.B 97 = some fn97 := by rfl
theorem CxB99 : Cx.B 99 = some fn99 := by rfl
theorem CxB100 : Cx.B 100 = some fn100 := by rfl
theorem CxB101 : Cx.B 101 = some fn101 := by rfl
theorem CxB102 : Cx.B 102 = some fn102 := by rfl
theorem CxB103 : Cx.B 103 = some fn103 := by rfl
theorem CxB110 : Cx.B 110 = some fn110 := by rfl
theorem CxB118 : Cx.B 118 = some fn118 := by rfl
theorem CxB119 : Cx.B 119 = some fn119 := by rfl
theorem CxB120 : Cx.B 120 = some fn120 := by rfl
theorem CxB121 : Cx.B 121 = some fn121 := by rfl
theorem CxB122 : Cx.B 122 = some fn122 := by rfl
theorem CxB123 : Cx.B 123 = some fn123 := by rfl
theorem CxB126 : Cx.B 126 = some fn126 := by rfl
theorem CxB127 : Cx.B 127 = some fn127 := by rfl
theorem CxB128 : Cx.B 128 = some fn128 := by rfl
theorem CxB129 : Cx.B 129 = some fn129 := by rfl
theorem CxB130 : Cx.B 130 = some fn130 := by rfl
theorem CxB131 : Cx.B 131 = some fn131 := by rfl
theorem CxB132 : Cx.B 132 = some fn132 := by rfl
theorem CxB145 : Cx.B 145 = some fn145 := by rfl
theorem CxB147 : Cx.B 147 = some fn147 := by rfl
theorem CxB153 : Cx.B 153 = some fn153 := by rfl
theorem CxB154 : Cx.B 154 = some fn154 := by rfl
theorem CxB155 : Cx.B 155 = some fn155 := by rfl
theorem CxB158 : Cx.B 158 = some fn158 := by rfl
theorem CxB164 : Cx.B 164 = some fn164 := by rfl
theorem CxB180 : Cx.B 180 = some fn180 := by rfl
theorem CxP14 : isPass Cx 14 = false := by rfl
theorem CxP15 : isPass Cx 15 = false := by rfl
theorem CxP16 : isPass Cx 16 = false := by rfl
theorem CxP22 : isPass Cx 22 = false := by rfl
theorem CxP23 : isPass Cx 23 = false := by rfl
theorem CxP24 : isPass Cx 24 = false := by rfl
theorem CxP25 : isPass Cx 25 = false := by rfl
theorem CxP26 : isPass Cx 26 = false := by rfl
theorem CxP27 : isPass Cx 27 = false := by rfl
theorem CxP28 : isPass Cx 28 = false := by rfl
theorem CxP29 : isPass Cx 29 = false := by rfl
theorem CxP30 : isPass Cx 30 = false := by rfl
theorem CxP31 : isPass Cx 31 = false := by rfl
theorem CxP32 : isPass Cx 32 = false := by rfl
theorem CxP33 : isPass Cx 33 = false := by rfl
theorem CxP34 : isPass Cx 34 = false := by rfl
theorem CxP35 : isPass Cx 35 = false := by rfl
theorem CxP36 : isPass Cx 36 = false := by rfl
theorem CxP37 : isPass Cx 37 = false := by rfl
theorem CxP40 : isPass Cx 40 = false := by rfl
theorem CxP41 : isPass Cx 41 = false := by rfl
theorem CxP42 : isPass Cx 42 = false := by rfl
theorem CxP43 : isPass Cx 43 = false := by rfl
theorem CxP44 : isPass Cx 44 = false := by rfl
theorem CxP45 : isPass Cx 45 = false := by rfl
theorem CxP46 : isPass Cx 46 = false := by rfl
theorem CxP47 : isPass Cx 47 = false := by rfl
theorem CxP48 : isPass Cx 48 = false := by rfl
theorem CxP49 : isPass Cx 49 = false := by rfl
theorem CxP50 : isPass Cx 50 = false := by rfl
theorem CxP51 : isPass Cx 51 = false := by rfl
theorem CxP52 : isPass Cx 52 = false := by rfl
theorem CxP53 : isPass Cx 53 = false := by rfl
theorem CxP54 : isPass Cx 54 = false := by rfl
theorem CxP55 : isPass Cx 55 = false := by rfl
theorem CxP56 : isPass Cx 56 = false := by rfl
theorem CxP57 : isPass Cx 57 = false := by rfl
theorem CxP58 : isPass Cx 58 = false := by rfl
theorem CxP59 : isPass Cx 59 = false := by rfl
theorem CxP60 : isPass Cx 60 = false := by rfl
theorem CxP61 : isPass Cx 61 = false := by rfl
theorem CxP62 : isPass Cx 62 = false := by rfl
theorem CxP63 : isPass Cx 63 = false := by rfl
theorem CxP64 : isPass Cx 64 = false := by rfl
theorem CxP65 : isPass Cx 65 = false := by rfl
theorem CxP66 : isPass Cx 66 = true := by rfl
theorem CxP67 : isPass Cx 67 = true := by rfl
theorem CxP68 : isPass Cx 68 = true := by rfl
theorem CxP69 : isPass Cx 69 = true := by rfl
theorem CxP73 : isPass Cx 73 = true := by rfl
theorem CxP82 : isPass Cx 82 = false := by rfl
theorem CxP83 : isPass Cx 83 = false := by rfl
theorem CxP84 : isPass Cx 84 = false := by rfl
theorem CxP85 : isPass Cx 85 = false := by rfl
theorem CxP86 : isPass Cx 86 = false := by rfl
theorem CxP87 : isPass Cx 87 = false := by rfl
theorem CxP88 : isPass Cx 88 = false := by rfl
theorem CxP89 : isPass Cx 89 = false := by rfl
theorem CxP90 : isPass Cx 90 = false := by rfl
theorem CxP91 : isPass Cx 91 = false := by rfl
theorem CxP92 : isPass Cx 92 = false := by rfl
theorem CxP93 : isPass Cx 93 = false := by rfl
theorem CxP94 : isPass Cx 94 = false := by rfl
theorem CxP95 : isPass Cx 95 = false := by rfl
theorem CxP96 : isPass Cx 96 = false := by rfl
theorem CxP97 : isPass Cx 97 = false := by rfl
theorem CxP98 : isPass Cx 98 = false := by rfl
theorem CxP99 : isPass Cx 99 = true := by rfl
theorem CxP100 : isPass Cx 100 = true := by rfl
theorem CxP101 : isPass Cx 101 = true := by rfl
theorem CxP102 : isPass Cx 102 = true := by rfl
theorem CxP103 : isPass Cx 103 = false := by rfl
theorem CxP118 : isPass Cx 118 = false := by rfl
theorem CxP119 : isPass Cx 119 = false := by rfl
theorem CxP120 : isPass Cx 120 = true := by rfl
theorem CxP121 : isPass Cx 121 = false := by rfl
theorem CxP122 : isPass Cx 122 = false := by rfl
theorem CxP123 : isPass Cx 123 = false := by rfl
theorem CxP126 : isPass Cx 126 = true := by rfl
theorem CxP127 : isPass Cx 127 = true := by rfl
theorem CxP128 : isPass Cx 128 = true := by rfl
theorem CxP129 : isPass Cx 129 = true := by rfl
theorem CxP130 : isPass Cx 130 = true := by rfl
theorem CxP131 : isPass Cx 131 = true := by rfl
theorem CxP132 : isPass Cx 132 = false := by rfl
theorem CxP145 : isPass Cx 145 = true := by rfl
theorem CxP147 : isPass Cx 147 = true := by rfl
theorem CxP153 : isPass Cx 153 = false := by rfl
theorem CxP154 : isPass Cx 154 = true := by rfl
theorem CxP155 : isPass Cx 155 = true := by rfl
theorem CxP158 : isPass Cx 158 = false := by rfl
theorem CxP164 : isPass Cx 164 = true := by rfl
theorem CxP180 : isPass Cx 180 = true := by rfl
theorem CxG2 : Cx.T.gl.tab 2 = some ([.int .u8 0, .int .u8 1, .int .u8 56, .int .u8 2, .int .u8 57, .int .u8 49, .int .u8 28, .int .u8 3, .int .u8 61, .int .u8 58, .int .u8 42, .int .u8 50, .int .u8 38, .int .u8 29, .int .u8 17, .int .u8 4, .int .u8 62, .int .u8 47, .int .u8 59, .int .u8 36, .int .u8 45, .int .u8 43, .int .u8 51, .int .u8 22, .int .u8 53, .int .u8 39, .int .u8 33, .int .u8 30, .int .u8 24, .int .u8 18, .int .u8 12, .int .u8 5, .int .u8 63, .int .u8 55, .int .u8 48, .int .u8 27, .int .u8 60, .int .u8 41, .int .u8 37, .int .u8 16, .int .u8 46, .int .u8 35, .int .u8 44, .int .u8 21, .int .u8 52, .int .u8 32, .int .u8 23, .int .u8 11, .int .u8 54, .int .u8 26, .int .u8 40, .int .u8 15, .int .u8 34, .int .u8 20, .int .u8 31, .int .u8 10, .int .u8 25, .int .u8 14, .int .u8 19, .int .u8 9, .int .u8 13, .int .u8 8, .int .u8 7, .int .u8 6] : List Value) := by rfl
theorem CxG6 : Cx.T.gl.tab 6 = some ([.int .u8 128, .int .u8 191, .int .u8 160, .int .u8 191, .int .u8 128, .int .u8 159, .int .u8 144, .int .u8 191, .int .u8 128, .int .u8 143, .int .u8 0, .int .u8 0, .int .u8 0, .int .u8 0, .int .u8 0, .int .u8 0, .int .u8 0, .int .u8 0, .int .u8 0, .int .u8 0, .int .u8 0, .int .u8 0, .int .u8 0, .int .u8 0, .int .u8 0, .int .u8 0, .int .u8 0, .int .u8 0, .int .u8 0, .int .u8 0, .int .u8 0, .int .u8 0] : List Value) := by rfl
theorem CxG0 : Cx.T.gl.tab 0 = some ([.int .i64 4, .int .i64 2, .int .i64 4, .int .i64 4, .int .i64 4] : List Value) := by rfl
theorem CxG7 : Cx.T.gl.tab 7 = some ([.int .u8 0, .int .u8 35, .int .u8 38, .int .u8 29, .int .u8 7, .int .u8 7, .int .u8 15, .int .u8 32, .int .u8 92] : List Value) := by rfl
theorem CxG1 : Cx.T.gl.tab 1 = some ([.int .u8 0, .int .u8 96, .int .u8 96, .int .u8 104, .int .u8 96, .int .u8 104, .int .u8 145, .int .u8 147, .int .u8 145, .int .u8 144, .int .u8 190, .int .u8 146, .int .u8 160] : List Value) := by rfl
theorem CxG3 : Cx.T.gl.tab 3 = some ([.string ⟨#[]⟩, .string ⟨#[]⟩, .string ⟨#[]⟩, .string ⟨#[]⟩, .string ⟨#[]⟩, .string ⟨#[]⟩, .string ⟨#[]⟩, .string ⟨#[]⟩, .string ⟨#[]⟩, .string ⟨#[]⟩, .string ⟨#[]⟩, .string ⟨#[]⟩, .string ⟨#[]⟩, .string ⟨#[]⟩, .string ⟨#[]⟩, .string ⟨#[73]⟩, .string ⟨#[83]⟩, .string ⟨#[69]⟩, .string ⟨#[79]⟩, .string ⟨#[77]⟩, .string ⟨#[73, 83]⟩, .string ⟨#[73, 77]⟩, .string ⟨#[83, 77]⟩, .string ⟨#[79, 77]⟩, .string ⟨#[73, 65]⟩, .string ⟨#[77, 73]⟩, .string ⟨#[73, 73]⟩, .string ⟨#[]⟩, .string ⟨#[]⟩, .string ⟨#[]⟩, .string ⟨#[108, 111, 97, 100]⟩, .string ⟨#[115, 116, 111, 114, 101]⟩, .string ⟨#[101, 118, 105, 99, 116]⟩, .string ⟨#[102, 119, 100, 115]⟩, .string ⟨#[102, 119, 100, 109]⟩, .string ⟨#[105, 110, 118]⟩, .string ⟨#[112, 117, 116]⟩, .string ⟨#[118, 97, 108, 117, 101]⟩, .string ⟨#[97, 108, 111, 110, 101]⟩, .string ⟨#[109, 111, 114, 101]⟩, .string ⟨#[103, 114, 97, 110, 116]⟩, .string ⟨#[115, 111, 111, 110]⟩, .string ⟨#[97, 99, 107]⟩, .string ⟨#[108, 97, 115, 116]⟩, .string ⟨#[]⟩, .string ⟨#[116, 97, 107, 101]⟩, .string ⟨#[97, 115, 107]⟩, .string ⟨#[97, 115, 107, 109]⟩, .string ⟨#[112, 117, 116]⟩, .string ⟨#[103, 105, 118, 101]⟩, .string ⟨#[99, 111, 112, 121]⟩, .string ⟨#[105, 110, 118]⟩, .string ⟨#[100, 111, 110, 101]⟩, .string ⟨#[100, 111]⟩, .string ⟨#[100, 114, 111, 112]⟩, .string ⟨#[]⟩, .string ⟨#[]⟩, .string ⟨#[]⟩, .string ⟨#[]⟩, .string ⟨#[]⟩, .string ⟨#[85, 110]⟩, .string ⟨#[83, 104]⟩, .string ⟨#[69, 120]⟩, .string ⟨#[79, 119]⟩, .string ⟨#[]⟩, .string ⟨#[]⟩, .string ⟨#[]⟩, .string ⟨#[]⟩, .string ⟨#[]⟩, .string ⟨#[]⟩, .string ⟨#[]⟩, .string ⟨#[]⟩, .string ⟨#[]⟩, .string ⟨#[]⟩, .string ⟨#[]⟩, .string ⟨#[103, 101, 116, 115]⟩, .string ⟨#[103, 101, 116, 109]⟩, .string ⟨#[117, 112]⟩, .string ⟨#[98, 97, 99, 107]⟩, .string ⟨#[115, 116, 97, 108, 101]⟩, .string ⟨#[]⟩, .string ⟨#[]⟩, .string ⟨#[]⟩, .string ⟨#[]⟩, .string ⟨#[]⟩, .string ⟨#[]⟩, .string ⟨#[]⟩, .string ⟨#[]⟩, .string ⟨#[]⟩, .string ⟨#[]⟩, .string ⟨#[105, 110, 118, 115]⟩, .string ⟨#[109, 101, 109]⟩, .string ⟨#[97, 108, 111, 110, 101]⟩, .string ⟨#[102, 119, 100, 115]⟩, .string ⟨#[102, 119, 100, 109]⟩, .string ⟨#[103, 114, 97, 110, 116]⟩, .string ⟨#[119, 114, 105, 116, 101]⟩, .string ⟨#[98, 97, 99, 107]⟩, .string ⟨#[99, 108, 101, 97, 114]⟩, .string ⟨#[110, 111, 116, 101]⟩, .string ⟨#[98, 111, 116, 104]⟩, .string ⟨#[111, 119, 110]⟩, .string ⟨#[102, 114, 101, 101]⟩, .string ⟨#[98, 117, 115, 121]⟩, .string ⟨#[116, 119, 105, 99, 101]⟩] : List Value) := by rfl
attribute [go_sem] fn5 m5 g5 u5_l0 g5_l0 fn6 m6 g6 u6_l0 g6_l0 fn9 m9 g9 fn10 m10 g10 fn11 m11 g11 fn12 m12 g12 fn13 m13 g13 fn14 m14 g14 u14_l0 g14_l0 fn15 m15 g15 u15_l0 g15_l0 u15_l1 g15_l1 u15_l2 g15_l2 fn16 m16 g16 u16_l0 g16_l0 u16_l1 g16_l1 u16_l2 g16_l2 fn17 m17 g17 u17_l0 g17_l0 fn18 m18 g18 u18_l0 g18_l0 fn19 m19 g19 fn22 m22 g22 u22_l0 g22_l0 u22_l1 g22_l1 u22_l2 g22_l2 fn23 m23 g23 u23_l0 g23_l0 fn24 m24 g24 u24_l0 g24_l0 u24_l1 g24_l1 fn25 m25 g25 u25_l0 g25_l0 u25_l1 g25_l1 fn26 m26 g26 u26_l0 g26_l0 fn27 m27 g27 u27_l0 g27_l0 u27_l1 g27_l1 fn28 m28 g28 u28_l0 g28_l0 fn29 m29 g29 fn30 m30 g30 fn31 m31 g31 fn32 m32 g32 fn33 m33 g33 fn34 m34 g34 u34_l0 g34_l0 u34_l1 g34_l1 fn35 u35_l0 g35_l0 fn36 m36 g36 fn37 m37 g37 fn38 m38 g38 fn40 m40 g40 fn41 m41 g41 u41_l0 g41_l0 fn42 m42 g42 fn43 m43 g43 fn44 m44 g44 fn45 m45 g45 fn46 m46 g46 u46_l0 g46_l0 fn47 m47 g47 fn48 m48 g48 u48_l0 g48_l0 fn49 m49 g49 fn50 m50 g50 u50_l0 g50_l0 u50_l1 g50_l1 fn51 m51 g51 u51_l0 g51_l0 fn52 m52 g52 fn53 m53 g53 fn54 m54 g54 fn55 m55 g55 fn56 m56 g56 fn57 m57 g57 fn58 m58 g58 fn59 m59 g59 u59_l0 g59_l0 fn60 m60 g60 u60_l0 g60_l0 u60_l1 g60_l1 fn61 m61 g61 fn62 m62 g62 fn63 m63 g63 fn64 m64 g64 fn65 m65 g65 u65_l0 g65_l0 fn66 m66 g66 u66_l0 g66_l0 fn67 m67 g67 u67_l0 g67_l0 u67_l1 g67_l1 fn68 m68 g68 u68_l0 g68_l0 fn69 m69 g69 u69_l0 g69_l0 u69_l1 g69_l1 fn73 m73 g73 u73_l0 g73_l0 fn74 m74 g74 fn82 m82 g82 fn83 m83 g83 fn84 m84 g84 fn85 m85 g85 fn86 m86 g86 fn87 m87 g87 fn88 m88 g88 fn89 m89 g89 fn90 m90 g90 fn91 m91 g91 fn92 m92 g92 fn93 m93 g93 fn94 m94 g94 fn95 m95 g95 fn96 m96 g96 fn97 m97 g97 fn98 m98 g98 u98_l0 g98_l0 u98_l1 g98_l1 fn99 m99 g99 u99_l0 g99_l0 fn100 m100 g100 fn101 fn102 m102 g102 fn103 m103 g103 fn110 m110 g110 u110_l0 g110_l0 u110_l1 g110_l1 fn118 m118 g118 u118_l0 g118_l0 u118_l1 g118_l1 fn119 m119 g119 fn120 m120 g120 u120_l0 g120_l0 u120_l1 g120_l1 fn121 m121 g121 fn122 m122 g122 u122_l0 g122_l0 fn123 m123 g123 fn124 m124 g124 fn125 m125 g125 fn126 m126 g126 u126_l0 g126_l0 fn127 m127 g127 fn128 m128 g128 fn129 m129 g129 fn130 m130 g130 fn131 m131 g131 fn132 m132 g132 fn145 m145 g145 fn147 m147 g147 fn153 m153 g153 fn154 m154 g154 fn155 m155 g155 fn156 m156 g156 u156_l0 g156_l0 fn157 m157 g157 fn158 m158 g158 u158_l0 g158_l0 fn164 m164 g164 u164_l0 g164_l0 u164_l1 g164_l1 u164_l2 g164_l2 u164_l3 g164_l3 fn180 m180 g180 u180_l0 g180_l0 CxT3 CxT4 CxT5 CxT9 CxT21 CxT22 CxT23 CxT24 CxT25 CxT27 CxT29 CxT31 CxT33 CxT34 CxT36 CxT44 CxT45 CxT47 CxT48 CxT50 CxT52 CxT56 CxT57 CxT58 CxT59 CxT61 CxT62 CxT63 CxT65 CxT66 CxT67 CxT69 CxT70 CxT71 CxT77 CxT81 CxT83 CxT84 CxT87 CxT88 CxT90 CxT95 CxT97 CxT98 CxT100 CxT103 CxT106 CxT108 CxT111 CxT120 CxT122 CxT124 CxT126 CxT127 CxT140 CxT142 CxT148 CxT150 CxT152 CxT153 CxT155 CxT164 CxT168 CxT170 CxT177 CxT178 CxT181 CxT194 CxT200 CxT203 CxT204 CxT206 CxT207 CxT209 CxT211 CxT216 CxT217 CxT225 CxT230 CxT235 CxT237 CxT239 CxT249 CxT252 CxT254 CxT257 CxT258 CxT264 CxT265 CxT266 CxT270 CxT273 CxT275 CxT278 CxT280 CxT282 CxT283 CxT286 CxT287 CxT288 CxT290 CxT292 CxT297 CxT299 CxT304 CxT318 CxT328 CxT345 ty3 ty4 ty5 ty9 ty21 ty22 ty23 ty24 ty25 ty27 ty29 ty31 ty33 ty34 ty36 ty44 ty45 ty47 ty48 ty50 ty52 ty56 ty57 ty58 ty59 ty61 ty62 ty63 ty65 ty66 ty67 ty69 ty70 ty71 ty77 ty81 ty83 ty84 ty87 ty88 ty90 ty95 ty97 ty98 ty100 ty103 ty106 ty108 ty111 ty120 ty122 ty124 ty126 ty127 ty140 ty142 ty148 ty150 ty152 ty153 ty155 ty164 ty168 ty170 ty177 ty178 ty181 ty194 ty200 ty203 ty204 ty206 ty207 ty209 ty211 ty216 ty217 ty225 ty230 ty235 ty237 ty239 ty249 ty252 ty254 ty257 ty258 ty264 ty265 ty266 ty270 ty273 ty275 ty278 ty280 ty282 ty283 ty286 ty287 ty288 ty290 ty292 ty297 ty299 ty304 ty318 ty328 ty345 CxG2 CxG6 CxG0 CxG7 CxG1 CxG3
end Go.Proofs.YtnhknhniemfnjaaGreatDoor.Ev
