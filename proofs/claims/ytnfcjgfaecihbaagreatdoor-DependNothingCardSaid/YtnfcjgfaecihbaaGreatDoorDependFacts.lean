/- The closed facts of the given row, of the program's shape alone. -/
import Derived.Test.YtnfcjgfaecihbaaGreatDoorDependOut
set_option linter.all false
set_option linter.all false
namespace Go.Proofs.YtnfcjgfaecihbaaGreatDoor
set_option maxRecDepth 100000 in
set_option maxHeartbeats 40000000 in
theorem depend_facts : joinedFacts Tryz.prog 3 Tryz.f3 Rows.dependNothingSpec Rows.dependNothingRow = true := by
  unfold joinedFacts
  simp only [Bool.and_eq_true]
  and_intros
  · as_aux_lemma => kernel_rfl
  · exact laidOut
  all_goals (as_aux_lemma => kernel_rfl)
theorem depend_named : Tryz.prog.funcNamed "customhouse/customhouselaw49.DependNothing" = some 3 := by kernel_rfl
end Go.Proofs.YtnfcjgfaecihbaaGreatDoor
