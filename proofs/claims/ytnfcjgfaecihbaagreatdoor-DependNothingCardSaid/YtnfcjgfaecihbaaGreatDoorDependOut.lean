/- The program is laid out (its 794 types, fifty at a time: at once they outgrow the kernel). -/
import Derived.Test.YtnfcjgfaecihbaaGreatDoorRows
import Derived.JoinedOf
import Derived.ProofKit
set_option linter.all false
set_option linter.all false
namespace Go.Proofs.YtnfcjgfaecihbaaGreatDoor
theorem range_cat {p : Nat → Bool} {a b c d n : Nat} (h1 : (List.range' a b).all p = true) (h2 : (List.range' d c).all p = true) (e1 : a + b = d) (e2 : b + c = n) : (List.range' a n).all p = true := by
  subst e1 e2
  have e : List.range' a b ++ List.range' (a + b) c = List.range' a (b + c) := by simp
  rw [← e, List.all_append, h1, h2]; rfl
set_option maxRecDepth 100000
theorem lo0 : (List.range' 0 50).all (rowFine Tryz.prog) = true := by kernel_rfl
theorem lo1 : (List.range' 50 50).all (rowFine Tryz.prog) = true := by kernel_rfl
theorem lo2 : (List.range' 100 50).all (rowFine Tryz.prog) = true := by kernel_rfl
theorem lo3 : (List.range' 150 50).all (rowFine Tryz.prog) = true := by kernel_rfl
theorem lo4 : (List.range' 200 50).all (rowFine Tryz.prog) = true := by kernel_rfl
theorem lo5 : (List.range' 250 50).all (rowFine Tryz.prog) = true := by kernel_rfl
theorem lo6 : (List.range' 300 50).all (rowFine Tryz.prog) = true := by kernel_rfl
theorem lo7 : (List.range' 350 50).all (rowFine Tryz.prog) = true := by kernel_rfl
theorem lo8 : (List.range' 400 50).all (rowFine Tryz.prog) = true := by kernel_rfl
theorem lo9 : (List.range' 450 50).all (rowFine Tryz.prog) = true := by kernel_rfl
theorem lo10 : (List.range' 500 50).all (rowFine Tryz.prog) = true := by kernel_rfl
theorem lo11 : (List.range' 550 50).all (rowFine Tryz.prog) = true := by kernel_rfl
theorem lo12 : (List.range' 600 50).all (rowFine Tryz.prog) = true := by kernel_rfl
theorem lo13 : (List.range' 650 50).all (rowFine Tryz.prog) = true := by kernel_rfl
theorem lo14 : (List.range' 700 50).all (rowFine Tryz.prog) = true := by kernel_rfl
theorem lo15 : (List.range' 750 44).all (rowFine Tryz.prog) = true := by kernel_rfl
theorem laidOut : laidOutB Tryz.prog = true := by
  have g1 := range_cat (p := rowFine Tryz.prog) (a := 0) (b := 50) (c := 50) (d := 50) (n := 100) lo0 lo1 rfl rfl
  have g2 := range_cat (p := rowFine Tryz.prog) (a := 0) (b := 100) (c := 50) (d := 100) (n := 150) g1 lo2 rfl rfl
  have g3 := range_cat (p := rowFine Tryz.prog) (a := 0) (b := 150) (c := 50) (d := 150) (n := 200) g2 lo3 rfl rfl
  have g4 := range_cat (p := rowFine Tryz.prog) (a := 0) (b := 200) (c := 50) (d := 200) (n := 250) g3 lo4 rfl rfl
  have g5 := range_cat (p := rowFine Tryz.prog) (a := 0) (b := 250) (c := 50) (d := 250) (n := 300) g4 lo5 rfl rfl
  have g6 := range_cat (p := rowFine Tryz.prog) (a := 0) (b := 300) (c := 50) (d := 300) (n := 350) g5 lo6 rfl rfl
  have g7 := range_cat (p := rowFine Tryz.prog) (a := 0) (b := 350) (c := 50) (d := 350) (n := 400) g6 lo7 rfl rfl
  have g8 := range_cat (p := rowFine Tryz.prog) (a := 0) (b := 400) (c := 50) (d := 400) (n := 450) g7 lo8 rfl rfl
  have g9 := range_cat (p := rowFine Tryz.prog) (a := 0) (b := 450) (c := 50) (d := 450) (n := 500) g8 lo9 rfl rfl
  have g10 := range_cat (p := rowFine Tryz.prog) (a := 0) (b := 500) (c := 50) (d := 500) (n := 550) g9 lo10 rfl rfl
  have g11 := range_cat (p := rowFine Tryz.prog) (a := 0) (b := 550) (c := 50) (d := 550) (n := 600) g10 lo11 rfl rfl
  have g12 := range_cat (p := rowFine Tryz.prog) (a := 0) (b := 600) (c := 50) (d := 600) (n := 650) g11 lo12 rfl rfl
  have g13 := range_cat (p := rowFine Tryz.prog) (a := 0) (b := 650) (c := 50) (d := 650) (n := 700) g12 lo13 rfl rfl
  have g14 := range_cat (p := rowFine Tryz.prog) (a := 0) (b := 700) (c := 50) (d := 700) (n := 750) g13 lo14 rfl rfl
  have g15 := range_cat (p := rowFine Tryz.prog) (a := 0) (b := 750) (c := 44) (d := 750) (n := 794) g14 lo15 rfl rfl
  have hs : Tryz.prog.types.size = 794 := by kernel_rfl
  have h3 : Tryz.prog.globals.all (fun g => decide (g.type < Tryz.prog.types.size)) = true := by as_aux_lemma => kernel_rfl
  have h4 : Tryz.prog.funcs.all (fun f => f.params.all fun t => decide (t < Tryz.prog.types.size)) = true := by as_aux_lemma => kernel_rfl
  unfold laidOutB
  rw [h3, h4, hs, List.range_eq_range', g15]
  rfl
end Go.Proofs.YtnfcjgfaecihbaaGreatDoor
