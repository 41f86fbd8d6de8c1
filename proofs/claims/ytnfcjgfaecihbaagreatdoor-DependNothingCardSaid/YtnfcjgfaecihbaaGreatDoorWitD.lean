/- A world where the laid variables lie, the sentinels put in by hand. -/
import Derived.Test.YtnfcjgfaecihbaaGreatDoorSentD
import Derived.Lay
set_option linter.all false
namespace Go.Proofs.YtnfcjgfaecihbaaGreatDoor
open Go Go.Proofs
set_option maxRecDepth 100000
theorem lay_range (n : Nat) : DataW.lay Tryz.prog 375 n Rows.laid_strconv_ErrRange = some ([.iface 751 (.pointer (some ⟨n, 0, none⟩))], [.cells #[.string ⟨#[118, 97, 108, 117, 101, 32, 111, 117, 116, 32, 111, 102, 32, 114, 97, 110, 103, 101]⟩] 753]) := by
  rw [Rows.laid_strconv_ErrRange, DataW.lay, sent_find]
  kernel_rfl
theorem lay_syntax (n : Nat) : DataW.lay Tryz.prog 375 n Rows.laid_strconv_ErrSyntax = some ([.iface 751 (.pointer (some ⟨n, 0, none⟩))], [.cells #[.string ⟨#[105, 110, 118, 97, 108, 105, 100, 32, 115, 121, 110, 116, 97, 120]⟩] 753]) := by
  rw [Rows.laid_strconv_ErrSyntax, DataW.lay, sent_find]
  kernel_rfl
theorem layList_cons {P : Program} {x : String × DataW Unit} {r : List (String × DataW Unit)} {n g : Nat} {gl : Global} {y : List Value × List Obj} {z : List (Nat × List Value) × List Obj} (hg : P.globalNamed x.1 = some g) (hgl : P.globals[g]? = some gl) (hl : x.2.lay P gl.type n = some y) (hr : Lay.layList P (n + y.2.length) r = some z) : Lay.layList P n (x :: r) = some ((g, y.1) :: z.1, y.2 ++ z.2) := by
  rw [Lay.layList, hg]
  dsimp only
  rw [hgl]
  dsimp only
  rw [hl]
  dsimp only
  rw [hr]
theorem some_getD {α : Type} {o : Option α} (d : α) (h : o.isSome = true) : o = some (o.getD d) := by cases o <;> simp at h ⊢
noncomputable def y0 (n : Nat) : List Value × List Obj := (DataW.lay Tryz.prog 771 n Rows.laid_math_bits_deBruijn32tab).getD ([], [])
theorem hy0 (n : Nat) : DataW.lay Tryz.prog 771 n Rows.laid_math_bits_deBruijn32tab = some (y0 n) := some_getD _ (by kernel_rfl)
noncomputable def y1 (n : Nat) : List Value × List Obj := (DataW.lay Tryz.prog 772 n Rows.laid_math_bits_deBruijn64tab).getD ([], [])
theorem hy1 (n : Nat) : DataW.lay Tryz.prog 772 n Rows.laid_math_bits_deBruijn64tab = some (y1 n) := some_getD _ (by kernel_rfl)
noncomputable def y2 (n : Nat) : List Value × List Obj := (DataW.lay Tryz.prog 738 n Rows.laid_internal_strconv_uint64pow10).getD ([], [])
theorem hy2 (n : Nat) : DataW.lay Tryz.prog 738 n Rows.laid_internal_strconv_uint64pow10 = some (y2 n) := some_getD _ (by kernel_rfl)
noncomputable def y3 (n : Nat) : List Value × List Obj := (DataW.lay Tryz.prog 744 n Rows.laid_unicode_utf8_acceptRanges).getD ([], [])
theorem hy3 (n : Nat) : DataW.lay Tryz.prog 744 n Rows.laid_unicode_utf8_acceptRanges = some (y3 n) := some_getD _ (by kernel_rfl)
noncomputable def y4 (n : Nat) : List Value × List Obj := ([.iface 751 (.pointer (some ⟨n, 0, none⟩))], [.cells #[.string ⟨#[118, 97, 108, 117, 101, 32, 111, 117, 116, 32, 111, 102, 32, 114, 97, 110, 103, 101]⟩] 753])
theorem hy4 (n : Nat) : DataW.lay Tryz.prog 375 n Rows.laid_strconv_ErrRange = some (y4 n) := lay_range n
noncomputable def y5 (n : Nat) : List Value × List Obj := ([.iface 751 (.pointer (some ⟨n, 0, none⟩))], [.cells #[.string ⟨#[105, 110, 118, 97, 108, 105, 100, 32, 115, 121, 110, 116, 97, 120]⟩] 753])
theorem hy5 (n : Nat) : DataW.lay Tryz.prog 375 n Rows.laid_strconv_ErrSyntax = some (y5 n) := lay_syntax n
noncomputable def y6 (n : Nat) : List Value × List Obj := (DataW.lay Tryz.prog 767 n Rows.laid_unicode_CaseRanges).getD ([], [])
theorem hy6 (n : Nat) : DataW.lay Tryz.prog 767 n Rows.laid_unicode_CaseRanges = some (y6 n) := some_getD _ (by kernel_rfl)
noncomputable def y7 (n : Nat) : List Value × List Obj := (DataW.lay Tryz.prog 741 n Rows.laid_unicode_utf8_first).getD ([], [])
theorem hy7 (n : Nat) : DataW.lay Tryz.prog 741 n Rows.laid_unicode_utf8_first = some (y7 n) := some_getD _ (by kernel_rfl)
noncomputable def z8 (_n : Nat) : List (Nat × List Value) × List Obj := ([], [])
theorem hz8 (n : Nat) : Lay.layList Tryz.prog n [] = some (z8 n) := rfl
noncomputable def z7 (n : Nat) : List (Nat × List Value) × List Obj := ((4, (y7 n).1) :: (z8 (n + (y7 n).2.length)).1, (y7 n).2 ++ (z8 (n + (y7 n).2.length)).2)
theorem hz7 (n : Nat) : Lay.layList Tryz.prog n [("unicode/utf8.first", Rows.laid_unicode_utf8_first)] = some (z7 n) := layList_cons (by kernel_rfl : Tryz.prog.globalNamed "unicode/utf8.first" = some 4) (by kernel_rfl : Tryz.prog.globals[4]? = some ⟨ "unicode/utf8.first", 741, none⟩) (hy7 n) (hz8 _)
noncomputable def z6 (n : Nat) : List (Nat × List Value) × List Obj := ((6, (y6 n).1) :: (z7 (n + (y6 n).2.length)).1, (y6 n).2 ++ (z7 (n + (y6 n).2.length)).2)
theorem hz6 (n : Nat) : Lay.layList Tryz.prog n [("unicode.CaseRanges", Rows.laid_unicode_CaseRanges), ("unicode/utf8.first", Rows.laid_unicode_utf8_first)] = some (z6 n) := layList_cons (by kernel_rfl : Tryz.prog.globalNamed "unicode.CaseRanges" = some 6) (by kernel_rfl : Tryz.prog.globals[6]? = some ⟨ "unicode.CaseRanges", 767, none⟩) (hy6 n) (hz7 _)
noncomputable def z5 (n : Nat) : List (Nat × List Value) × List Obj := ((1, (y5 n).1) :: (z6 (n + (y5 n).2.length)).1, (y5 n).2 ++ (z6 (n + (y5 n).2.length)).2)
theorem hz5 (n : Nat) : Lay.layList Tryz.prog n [("strconv.ErrSyntax", Rows.laid_strconv_ErrSyntax), ("unicode.CaseRanges", Rows.laid_unicode_CaseRanges), ("unicode/utf8.first", Rows.laid_unicode_utf8_first)] = some (z5 n) := layList_cons (by kernel_rfl : Tryz.prog.globalNamed "strconv.ErrSyntax" = some 1) (by kernel_rfl : Tryz.prog.globals[1]? = some ⟨ "strconv.ErrSyntax", 375, none⟩) (hy5 n) (hz6 _)
noncomputable def z4 (n : Nat) : List (Nat × List Value) × List Obj := ((2, (y4 n).1) :: (z5 (n + (y4 n).2.length)).1, (y4 n).2 ++ (z5 (n + (y4 n).2.length)).2)
theorem hz4 (n : Nat) : Lay.layList Tryz.prog n [("strconv.ErrRange", Rows.laid_strconv_ErrRange), ("strconv.ErrSyntax", Rows.laid_strconv_ErrSyntax), ("unicode.CaseRanges", Rows.laid_unicode_CaseRanges), ("unicode/utf8.first", Rows.laid_unicode_utf8_first)] = some (z4 n) := layList_cons (by kernel_rfl : Tryz.prog.globalNamed "strconv.ErrRange" = some 2) (by kernel_rfl : Tryz.prog.globals[2]? = some ⟨ "strconv.ErrRange", 375, none⟩) (hy4 n) (hz5 _)
noncomputable def z3 (n : Nat) : List (Nat × List Value) × List Obj := ((5, (y3 n).1) :: (z4 (n + (y3 n).2.length)).1, (y3 n).2 ++ (z4 (n + (y3 n).2.length)).2)
theorem hz3 (n : Nat) : Lay.layList Tryz.prog n [("unicode/utf8.acceptRanges", Rows.laid_unicode_utf8_acceptRanges), ("strconv.ErrRange", Rows.laid_strconv_ErrRange), ("strconv.ErrSyntax", Rows.laid_strconv_ErrSyntax), ("unicode.CaseRanges", Rows.laid_unicode_CaseRanges), ("unicode/utf8.first", Rows.laid_unicode_utf8_first)] = some (z3 n) := layList_cons (by kernel_rfl : Tryz.prog.globalNamed "unicode/utf8.acceptRanges" = some 5) (by kernel_rfl : Tryz.prog.globals[5]? = some ⟨ "unicode/utf8.acceptRanges", 744, none⟩) (hy3 n) (hz4 _)
noncomputable def z2 (n : Nat) : List (Nat × List Value) × List Obj := ((3, (y2 n).1) :: (z3 (n + (y2 n).2.length)).1, (y2 n).2 ++ (z3 (n + (y2 n).2.length)).2)
theorem hz2 (n : Nat) : Lay.layList Tryz.prog n [("internal/strconv.uint64pow10", Rows.laid_internal_strconv_uint64pow10), ("unicode/utf8.acceptRanges", Rows.laid_unicode_utf8_acceptRanges), ("strconv.ErrRange", Rows.laid_strconv_ErrRange), ("strconv.ErrSyntax", Rows.laid_strconv_ErrSyntax), ("unicode.CaseRanges", Rows.laid_unicode_CaseRanges), ("unicode/utf8.first", Rows.laid_unicode_utf8_first)] = some (z2 n) := layList_cons (by kernel_rfl : Tryz.prog.globalNamed "internal/strconv.uint64pow10" = some 3) (by kernel_rfl : Tryz.prog.globals[3]? = some ⟨ "internal/strconv.uint64pow10", 738, none⟩) (hy2 n) (hz3 _)
noncomputable def z1 (n : Nat) : List (Nat × List Value) × List Obj := ((8, (y1 n).1) :: (z2 (n + (y1 n).2.length)).1, (y1 n).2 ++ (z2 (n + (y1 n).2.length)).2)
theorem hz1 (n : Nat) : Lay.layList Tryz.prog n [("math/bits.deBruijn64tab", Rows.laid_math_bits_deBruijn64tab), ("internal/strconv.uint64pow10", Rows.laid_internal_strconv_uint64pow10), ("unicode/utf8.acceptRanges", Rows.laid_unicode_utf8_acceptRanges), ("strconv.ErrRange", Rows.laid_strconv_ErrRange), ("strconv.ErrSyntax", Rows.laid_strconv_ErrSyntax), ("unicode.CaseRanges", Rows.laid_unicode_CaseRanges), ("unicode/utf8.first", Rows.laid_unicode_utf8_first)] = some (z1 n) := layList_cons (by kernel_rfl : Tryz.prog.globalNamed "math/bits.deBruijn64tab" = some 8) (by kernel_rfl : Tryz.prog.globals[8]? = some ⟨ "math/bits.deBruijn64tab", 772, none⟩) (hy1 n) (hz2 _)
noncomputable def z0 (n : Nat) : List (Nat × List Value) × List Obj := ((7, (y0 n).1) :: (z1 (n + (y0 n).2.length)).1, (y0 n).2 ++ (z1 (n + (y0 n).2.length)).2)
theorem hz0 (n : Nat) : Lay.layList Tryz.prog n [("math/bits.deBruijn32tab", Rows.laid_math_bits_deBruijn32tab), ("math/bits.deBruijn64tab", Rows.laid_math_bits_deBruijn64tab), ("internal/strconv.uint64pow10", Rows.laid_internal_strconv_uint64pow10), ("unicode/utf8.acceptRanges", Rows.laid_unicode_utf8_acceptRanges), ("strconv.ErrRange", Rows.laid_strconv_ErrRange), ("strconv.ErrSyntax", Rows.laid_strconv_ErrSyntax), ("unicode.CaseRanges", Rows.laid_unicode_CaseRanges), ("unicode/utf8.first", Rows.laid_unicode_utf8_first)] = some (z0 n) := layList_cons (by kernel_rfl : Tryz.prog.globalNamed "math/bits.deBruijn32tab" = some 7) (by kernel_rfl : Tryz.prog.globals[7]? = some ⟨ "math/bits.deBruijn32tab", 771, none⟩) (hy0 n) (hz1 _)
theorem e0 (n : Nat) : (y0 n).2 = [] := by kernel_rfl
theorem e1 (n : Nat) : (y1 n).2 = [] := by kernel_rfl
theorem e2 (n : Nat) : (y2 n).2 = [] := by kernel_rfl
theorem e3 (n : Nat) : (y3 n).2 = [] := by kernel_rfl
theorem e6 (n : Nat) : (y6 n).2.length = 1 := by kernel_rfl
theorem e7 (n : Nat) : (y7 n).2 = [] := by kernel_rfl
end Go.Proofs.YtnfcjgfaecihbaaGreatDoor
