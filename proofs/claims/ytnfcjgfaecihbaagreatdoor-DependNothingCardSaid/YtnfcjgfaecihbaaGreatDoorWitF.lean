/- A world where the laid variables lie: it has the shape of the start. -/
import Derived.Test.YtnfcjgfaecihbaaGreatDoorWitE
import Derived.Lay
set_option linter.all false
set_option linter.all false
namespace Go.Proofs.YtnfcjgfaecihbaaGreatDoor
open Go Go.Proofs
set_option maxRecDepth 100000
set_option maxHeartbeats 40000000 in
theorem wit_zip (os : Os) (args : Array Value) : ((wit os).forCall (fun _ _ => 0) ⟨#[], args, []⟩).variablesZipB Tryz.prog = true := by
  have hs : Tryz.prog.globals.size = 9 := by kernel_rfl
  have hr : List.range 9 = [0, 1, 2, 3, 4, 5, 6, 7, 8] := rfl
  unfold World.variablesZipB
  dsimp only
  rw [hs, hr]
  simp only [List.all_cons, List.all_nil, Bool.and_eq_true]
  and_intros
  all_goals clear hs hr
  all_goals first | exact True.intro | (as_aux_lemma => kernel_rfl)
set_option maxHeartbeats 40000000 in
theorem wit_rest (os : Os) (args : Array Value) : ((((wit os).forCall (fun _ _ => 0) ⟨#[], args, []⟩).heap.toList.drop Tryz.prog.globals.size).take ((begin Tryz.prog (fun _ _ => 0) default).world.heap.size - Tryz.prog.globals.size)) = (begin Tryz.prog (fun _ _ => 0) default).world.heap.toList.drop Tryz.prog.globals.size := by
  kernel_rfl
theorem wit_shaped (os : Os) (args : Array Value) : ((World.laidAll Tryz.prog os Rows.dependNothingRow.laid).forCall (fun _ _ => 0) ⟨#[], args, []⟩).Shaped Tryz.prog := by
  have h := World.shaped_of_ZipB (wit_zip os args) (wit_rest os args)
  rw [wit_eq]
  exact h
end Go.Proofs.YtnfcjgfaecihbaaGreatDoor
