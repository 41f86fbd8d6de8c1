/- The call starts no goroutine: no function of the program has a go statement (fifty functions at a time). -/
import Derived.Test.YtnfcjgfaecihbaaGreatDoorRows
import GoSem.ClaimGoes
import Derived.KernelRfl
import Derived.ProofKit
set_option linter.all false
set_option linter.all false
namespace Go.Proofs.YtnfcjgfaecihbaaGreatDoor
theorem goes_none {P : Program} (h : ∀ g, g < P.funcs.size → ((P.funcs[g]?).any Func.goes) = false) (c : OpenClaim) (hs : c.start = .entering) : false = c.goesBy P := by
  have h1 : ∀ g, ((P.funcs[g]?).any Func.goes) = false := fun g => by
    by_cases hg : g < P.funcs.size
    · exact h g hg
    · rw [Array.getElem?_eq_none (by omega)]; rfl
  have h2 : P.funcs.any Func.goes = false := by
    rw [Array.any_eq_false]
    intro i hi
    have := h1 i
    rw [Array.getElem?_eq_getElem hi] at this
    simpa using this
  have h3 : ∀ f, P.goes f = false := fun f => by
    unfold Program.goes
    rw [h2, Bool.and_false, Bool.or_false, List.any_eq_false]
    intro g _
    rw [h1 g]; decide
  unfold OpenClaim.goesBy Program.goesAt Program.goesFrom
  rw [hs]
  cases P.funcNamed c.func with
  | none => rfl
  | some f => simp [h3 f]
set_option maxRecDepth 100000
theorem go0 : (List.range' 0 30).all (fun g => !((Tryz.prog.funcs[g]?).any Func.goes)) = true := by kernel_rfl
theorem go1 : (List.range' 30 30).all (fun g => !((Tryz.prog.funcs[g]?).any Func.goes)) = true := by kernel_rfl
theorem go2 : (List.range' 60 30).all (fun g => !((Tryz.prog.funcs[g]?).any Func.goes)) = true := by kernel_rfl
theorem go3 : (List.range' 90 30).all (fun g => !((Tryz.prog.funcs[g]?).any Func.goes)) = true := by kernel_rfl
theorem go4 : (List.range' 120 30).all (fun g => !((Tryz.prog.funcs[g]?).any Func.goes)) = true := by kernel_rfl
theorem go5 : (List.range' 150 30).all (fun g => !((Tryz.prog.funcs[g]?).any Func.goes)) = true := by kernel_rfl
theorem go6 : (List.range' 180 30).all (fun g => !((Tryz.prog.funcs[g]?).any Func.goes)) = true := by kernel_rfl
theorem go7 : (List.range' 210 30).all (fun g => !((Tryz.prog.funcs[g]?).any Func.goes)) = true := by kernel_rfl
theorem go8 : (List.range' 240 30).all (fun g => !((Tryz.prog.funcs[g]?).any Func.goes)) = true := by kernel_rfl
theorem go9 : (List.range' 270 30).all (fun g => !((Tryz.prog.funcs[g]?).any Func.goes)) = true := by kernel_rfl
theorem go10 : (List.range' 300 30).all (fun g => !((Tryz.prog.funcs[g]?).any Func.goes)) = true := by kernel_rfl
theorem go11 : (List.range' 330 30).all (fun g => !((Tryz.prog.funcs[g]?).any Func.goes)) = true := by kernel_rfl
theorem go12 : (List.range' 360 30).all (fun g => !((Tryz.prog.funcs[g]?).any Func.goes)) = true := by kernel_rfl
theorem go13 : (List.range' 390 30).all (fun g => !((Tryz.prog.funcs[g]?).any Func.goes)) = true := by kernel_rfl
theorem go14 : (List.range' 420 30).all (fun g => !((Tryz.prog.funcs[g]?).any Func.goes)) = true := by kernel_rfl
theorem go15 : (List.range' 450 30).all (fun g => !((Tryz.prog.funcs[g]?).any Func.goes)) = true := by kernel_rfl
theorem go16 : (List.range' 480 30).all (fun g => !((Tryz.prog.funcs[g]?).any Func.goes)) = true := by kernel_rfl
theorem go17 : (List.range' 510 30).all (fun g => !((Tryz.prog.funcs[g]?).any Func.goes)) = true := by kernel_rfl
theorem go18 : (List.range' 540 30).all (fun g => !((Tryz.prog.funcs[g]?).any Func.goes)) = true := by kernel_rfl
theorem go19 : (List.range' 570 27).all (fun g => !((Tryz.prog.funcs[g]?).any Func.goes)) = true := by kernel_rfl
theorem goes_part {p : Nat → Bool} {a n : Nat} (h : (List.range' a n).all (fun g => !p g) = true) (g : Nat) (h1 : a ≤ g) (h2 : g < a + n) : p g = false := by
  have := List.all_eq_true.1 h g (by rw [List.mem_range'_1]; exact ⟨h1, h2⟩)
  simpa using this
theorem goesD : false = Rows.dependNothingRow.goesBy Tryz.prog := by
  have hs : Tryz.prog.funcs.size = 597 := by kernel_rfl
  refine goes_none (fun g hg => ?_) _ rfl
  rw [hs] at hg
  by_cases k0 : g < 30
  · exact goes_part (p := fun g => (Tryz.prog.funcs[g]?).any Func.goes) go0 g (by omega) (by omega)
  by_cases k1 : g < 60
  · exact goes_part (p := fun g => (Tryz.prog.funcs[g]?).any Func.goes) go1 g (by omega) (by omega)
  by_cases k2 : g < 90
  · exact goes_part (p := fun g => (Tryz.prog.funcs[g]?).any Func.goes) go2 g (by omega) (by omega)
  by_cases k3 : g < 120
  · exact goes_part (p := fun g => (Tryz.prog.funcs[g]?).any Func.goes) go3 g (by omega) (by omega)
  by_cases k4 : g < 150
  · exact goes_part (p := fun g => (Tryz.prog.funcs[g]?).any Func.goes) go4 g (by omega) (by omega)
  by_cases k5 : g < 180
  · exact goes_part (p := fun g => (Tryz.prog.funcs[g]?).any Func.goes) go5 g (by omega) (by omega)
  by_cases k6 : g < 210
  · exact goes_part (p := fun g => (Tryz.prog.funcs[g]?).any Func.goes) go6 g (by omega) (by omega)
  by_cases k7 : g < 240
  · exact goes_part (p := fun g => (Tryz.prog.funcs[g]?).any Func.goes) go7 g (by omega) (by omega)
  by_cases k8 : g < 270
  · exact goes_part (p := fun g => (Tryz.prog.funcs[g]?).any Func.goes) go8 g (by omega) (by omega)
  by_cases k9 : g < 300
  · exact goes_part (p := fun g => (Tryz.prog.funcs[g]?).any Func.goes) go9 g (by omega) (by omega)
  by_cases k10 : g < 330
  · exact goes_part (p := fun g => (Tryz.prog.funcs[g]?).any Func.goes) go10 g (by omega) (by omega)
  by_cases k11 : g < 360
  · exact goes_part (p := fun g => (Tryz.prog.funcs[g]?).any Func.goes) go11 g (by omega) (by omega)
  by_cases k12 : g < 390
  · exact goes_part (p := fun g => (Tryz.prog.funcs[g]?).any Func.goes) go12 g (by omega) (by omega)
  by_cases k13 : g < 420
  · exact goes_part (p := fun g => (Tryz.prog.funcs[g]?).any Func.goes) go13 g (by omega) (by omega)
  by_cases k14 : g < 450
  · exact goes_part (p := fun g => (Tryz.prog.funcs[g]?).any Func.goes) go14 g (by omega) (by omega)
  by_cases k15 : g < 480
  · exact goes_part (p := fun g => (Tryz.prog.funcs[g]?).any Func.goes) go15 g (by omega) (by omega)
  by_cases k16 : g < 510
  · exact goes_part (p := fun g => (Tryz.prog.funcs[g]?).any Func.goes) go16 g (by omega) (by omega)
  by_cases k17 : g < 540
  · exact goes_part (p := fun g => (Tryz.prog.funcs[g]?).any Func.goes) go17 g (by omega) (by omega)
  by_cases k18 : g < 570
  · exact goes_part (p := fun g => (Tryz.prog.funcs[g]?).any Func.goes) go18 g (by omega) (by omega)
  exact goes_part (p := fun g => (Tryz.prog.funcs[g]?).any Func.goes) go19 g (by omega) (by omega)
end Go.Proofs.YtnfcjgfaecihbaaGreatDoor
