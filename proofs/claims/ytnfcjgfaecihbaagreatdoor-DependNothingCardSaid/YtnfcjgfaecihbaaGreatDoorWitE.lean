/- A world where the laid variables lie: its facts. -/
import Derived.Test.YtnfcjgfaecihbaaGreatDoorWitD
import Derived.Lay
set_option linter.all false
set_option linter.all false
namespace Go.Proofs.YtnfcjgfaecihbaaGreatDoor
open Go Go.Proofs
set_option maxRecDepth 100000
noncomputable def zz (n : Nat) : List (Nat × List Value) × List Obj := ([(7, (y0 n).1), (8, (y1 n).1), (3, (y2 n).1), (5, (y3 n).1), (2, (y4 n).1), (1, (y5 (n + 1)).1), (6, (y6 (n + 2)).1), (4, (y7 (n + 3)).1)], .cells #[.string ⟨#[118, 97, 108, 117, 101, 32, 111, 117, 116, 32, 111, 102, 32, 114, 97, 110, 103, 101]⟩] 753 :: .cells #[.string ⟨#[105, 110, 118, 97, 108, 105, 100, 32, 115, 121, 110, 116, 97, 120]⟩] 753 :: (y6 (n + 2)).2)
theorem zz_eq (n : Nat) : z0 n = zz n := by
  have b4 : ∀ m, (y4 m).2 = [.cells #[.string ⟨#[118, 97, 108, 117, 101, 32, 111, 117, 116, 32, 111, 102, 32, 114, 97, 110, 103, 101]⟩] 753] := fun _ => rfl
  have b5 : ∀ m, (y5 m).2 = [.cells #[.string ⟨#[105, 110, 118, 97, 108, 105, 100, 32, 115, 121, 110, 116, 97, 120]⟩] 753] := fun _ => rfl
  simp only [z0, z1, z2, z3, z4, z5, z6, z7, z8, zz, e0, e1, e2, e3, e6, e7, b4, b5, List.length_nil, List.length_cons, Nat.zero_add, Nat.add_zero, List.nil_append, List.append_nil, List.cons_append, Nat.add_assoc, Nat.reduceAdd]
noncomputable def wit (os : Os) : World := { World.holding Tryz.prog os ⟨#[], #[], []⟩ with heap := ⟨Lay.setRows (World.holding Tryz.prog os ⟨#[], #[], []⟩).heap.toList (zz (World.holding Tryz.prog os ⟨#[], #[], []⟩).heap.size).1 ++ (zz (World.holding Tryz.prog os ⟨#[], #[], []⟩).heap.size).2⟩ }
theorem layVars_of {P : Program} {w : World} {l : List (String × DataW Unit)} {y : List (Nat × List Value) × List Obj} (h : Lay.layList P w.heap.size l = some y) : w.layVars P l = { w with heap := ⟨Lay.setRows w.heap.toList y.1 ++ y.2⟩ } := by
  unfold World.layVars
  rw [h]
theorem laid_is : Rows.dependNothingRow.laid = [("math/bits.deBruijn32tab", Rows.laid_math_bits_deBruijn32tab), ("math/bits.deBruijn64tab", Rows.laid_math_bits_deBruijn64tab), ("internal/strconv.uint64pow10", Rows.laid_internal_strconv_uint64pow10), ("unicode/utf8.acceptRanges", Rows.laid_unicode_utf8_acceptRanges), ("strconv.ErrRange", Rows.laid_strconv_ErrRange), ("strconv.ErrSyntax", Rows.laid_strconv_ErrSyntax), ("unicode.CaseRanges", Rows.laid_unicode_CaseRanges), ("unicode/utf8.first", Rows.laid_unicode_utf8_first)] := by
  unfold Rows.dependNothingRow
  dsimp only
theorem wit_lay (n : Nat) : Lay.layList Tryz.prog n Rows.dependNothingRow.laid = some (zz n) := by
  rw [laid_is, hz0, zz_eq]
theorem wit_eq (os : Os) : World.laidAll Tryz.prog os Rows.dependNothingRow.laid = wit os := by
  unfold World.laidAll
  exact layVars_of (wit_lay _)
theorem all_names {p : Nat → Bool} (l : List (Nat × List Value)) : (l.all fun r => p r.1) = (l.map (·.1)).all p := by
  rw [List.all_map]; rfl
theorem wit_rows (os : Os) : ([7, 8, 3, 5, 2, 1, 6, 4].all fun g => Lay.isRow (World.holding Tryz.prog os ⟨#[], #[], []⟩).heap.toList[g]? && !([] : List Nat).contains g) = true := by kernel_rfl
theorem fits_of {P : Program} {w0 : World} {laid : List (String × DataW Unit)} {z : List (Nat × List Value) × List Obj} {l : List Nat} (h1 : Lay.layList P w0.heap.size laid = some z) (h2 : z.1.map (·.1) = l) (h3 : (l.all fun g => Lay.isRow w0.heap.toList[g]? && !([] : List Nat).contains g) = true) (h4 : l.Nodup) : w0.layFits P laid [] = true := by
  unfold World.layFits
  rw [h1]
  dsimp only
  rw [all_names (p := fun g => Lay.isRow w0.heap.toList[g]? && !([] : List Nat).contains g), h2, h3, decide_eq_true h4]
  rfl
theorem zz_names (n : Nat) : (zz n).1.map (·.1) = [7, 8, 3, 5, 2, 1, 6, 4] := by
  unfold zz
  generalize (y0 n).1 = a0
  generalize (y1 n).1 = a1
  generalize (y2 n).1 = a2
  generalize (y3 n).1 = a3
  generalize (y4 n).1 = a4
  generalize (y5 (n + 1)).1 = a5
  generalize (y6 (n + 2)).1 = a6
  generalize (y7 (n + 3)).1 = a7
  rfl
theorem wit_fits (os : Os) : (World.holding Tryz.prog os ⟨#[], #[], []⟩).layFits Tryz.prog Rows.dependNothingRow.laid [] = true :=
  fits_of (wit_lay _) (zz_names _) (wit_rows os) (by decide)
theorem wit_size (os : Os) (l : List (Nat × List Value)) : (Lay.setRows (World.holding Tryz.prog os ⟨#[], #[], []⟩).heap.toList l).length = (World.holding Tryz.prog os ⟨#[], #[], []⟩).heap.size := by
  rw [Lay.setRows_length]; simp
theorem wit_b4 (os : Os) : (wit os).shape? (World.holding Tryz.prog os ⟨#[], #[], []⟩).heap.size = some (753, 1) := by
  unfold World.shape? wit zz
  dsimp only
  rw [List.getElem?_toArray, List.getElem?_append_right (by rw [wit_size]; exact Nat.le_refl _), wit_size, Nat.sub_self]
  rfl
theorem wit_b5 (os : Os) : (wit os).shape? ((World.holding Tryz.prog os ⟨#[], #[], []⟩).heap.size + 1) = some (753, 1) := by
  unfold World.shape? wit zz
  dsimp only
  rw [List.getElem?_toArray, List.getElem?_append_right (by rw [wit_size]; omega), wit_size, Nat.add_sub_cancel_left]
  rfl
theorem u751 : Tryz.prog.underlying 751 = some (.pointer 753) := by kernel_rfl
theorem c753 : Tryz.prog.cellsOf 753 = 1 := by kernel_rfl
theorem l753 : liesAt Tryz.prog Tryz.prog.depth 753 (1 / 1) 0 753 1 = true := by kernel_rfl
theorem okE {w : World} {n : Nat} (h : w.shape? n = some (753, 1)) : Lay.okV Tryz.prog w (.iface 751 (.pointer (some ⟨n, 0, none⟩))) = true := by
  simp only [Lay.okV, Value.okWideB, u751, Cell.okWideB, Cell.okRefB, World.hasB, h, c753, l753, Option.isNone_none, Bool.true_and]
theorem ok0 (n : Nat) (w : World) : (y0 n).1.all (Lay.okV Tryz.prog w) = true := by kernel_rfl
theorem ok1 (n : Nat) (w : World) : (y1 n).1.all (Lay.okV Tryz.prog w) = true := by kernel_rfl
theorem ok2 (n : Nat) (w : World) : (y2 n).1.all (Lay.okV Tryz.prog w) = true := by kernel_rfl
theorem ok3 (n : Nat) (w : World) : (y3 n).1.all (Lay.okV Tryz.prog w) = true := by kernel_rfl
theorem ok6 (n : Nat) (w : World) : (y6 n).1.all (Lay.okV Tryz.prog w) = true := by kernel_rfl
theorem ok6b (n : Nat) (w : World) : (y6 n).2.all (Lay.okO Tryz.prog w) = true := by kernel_rfl
theorem ok7 (n : Nat) (w : World) : (y7 n).1.all (Lay.okV Tryz.prog w) = true := by kernel_rfl
theorem ifaces_of {P : Program} {w0 w : World} {laid : List (String × DataW Unit)} {z : List (Nat × List Value) × List Obj} (h1 : Lay.layList P w0.heap.size laid = some z) (h2 : (z.1.all fun r => r.2.all (Lay.okV P w)) = true) (h3 : z.2.all (Lay.okO P w) = true) : w0.layIfaces P laid w = true := by
  unfold World.layIfaces
  rw [h1]
  dsimp only
  rw [h2, h3]
  rfl
theorem zz_rows (p : List Value → Bool) (n : Nat) (h0 : p (y0 n).1 = true) (h1 : p (y1 n).1 = true) (h2 : p (y2 n).1 = true) (h3 : p (y3 n).1 = true) (h4 : p (y4 n).1 = true) (h5 : p (y5 (n + 1)).1 = true) (h6 : p (y6 (n + 2)).1 = true) (h7 : p (y7 (n + 3)).1 = true) : ((zz n).1.all fun r => p r.2) = true := by
  unfold zz
  generalize (y0 n).1 = a0 at *
  generalize (y1 n).1 = a1 at *
  generalize (y2 n).1 = a2 at *
  generalize (y3 n).1 = a3 at *
  generalize (y4 n).1 = a4 at *
  generalize (y5 (n + 1)).1 = a5 at *
  generalize (y6 (n + 2)).1 = a6 at *
  generalize (y7 (n + 3)).1 = a7 at *
  simp only [List.all_cons, List.all_nil, h0, h1, h2, h3, h4, h5, h6, h7, Bool.and_true]
theorem zz_blocks (q : Obj → Bool) (n : Nat) (h : ∀ s : ByteArray, q (.cells #[.string s] 753) = true) (h6 : (y6 (n + 2)).2.all q = true) : (zz n).2.all q = true := by
  unfold zz
  generalize (y6 (n + 2)).2 = b6 at *
  simp only [List.all_cons, h, h6, Bool.and_true]
theorem one_all {p : Value → Bool} {v : Value} (h : p v = true) : [v].all p = true := by simp [h]
theorem wit_ifaces (os : Os) : (World.holding Tryz.prog os ⟨#[], #[], []⟩).layIfaces Tryz.prog Rows.dependNothingRow.laid (World.laidAll Tryz.prog os Rows.dependNothingRow.laid) = true := by
  have k4 := okE (wit_b4 os)
  have k5 := okE (wit_b5 os)
  have h := ifaces_of (P := Tryz.prog) (w := wit os) (wit_lay (World.holding Tryz.prog os ⟨#[], #[], []⟩).heap.size) (zz_rows (fun r => r.all (Lay.okV Tryz.prog (wit os))) _ (ok0 _ _) (ok1 _ _) (ok2 _ _) (ok3 _ _) (one_all k4) (one_all k5) (ok6 _ _) (ok7 _ _)) (zz_blocks (Lay.okO Tryz.prog (wit os)) _ (fun _ => rfl) (ok6b _ _))
  rw [wit_eq]
  exact h
end Go.Proofs.YtnfcjgfaecihbaaGreatDoor
