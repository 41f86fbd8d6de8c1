/-
  ChainMakes: the proof, part 33 of 34.
-/
import Derived.Test.YtdgmgjeoikcgbaaGreatDoorP00
import Derived.Test.YtdgmgjeoikcgbaaGreatDoorRows
import Derived.ProofKit
set_option linter.unusedSimpArgs false
set_option linter.unusedVariables false
set_option maxHeartbeats 40000000
set_option maxRecDepth 100000
namespace Go.Proofs.YtdgmgjeoikcgbaaGreatDoor
section
theorem Eff:joinedFacts Tryz.prog 3 Tryz.f3 Rows.chainMakesAsReferenceSpec Rows.chainMakesAsReferenceRow=true:=by unfold joinedFacts;simp only [Aw];and_intros;all_goals (as_aux_lemma=>kernel_rfl)
theorem Ud:Tryz.prog.funcNamed "customhouse/customhouselaw40.ChainMakesAsReference"=some 3:=kR
end
end Go.Proofs.YtdgmgjeoikcgbaaGreatDoor
