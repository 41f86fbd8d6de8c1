/-
  ChainKeeps: the proof, part 24 of 25.
-/
import Derived.Test.YthapckjpmkkkpaaGreatDoorP00
import Derived.Test.YthapckjpmkkkpaaGreatDoorRows
import Derived.ProofKit
set_option linter.unusedSimpArgs false
set_option linter.unusedVariables false
set_option maxHeartbeats 40000000
set_option maxRecDepth 100000
namespace Go.Proofs.YthapckjpmkkkpaaGreatDoor
section
theorem Cli:joinedFacts Tryz.prog 3 Tryz.f3 Rows.chainKeepsSpec Rows.chainKeepsRow=true:=by unfold joinedFacts;simp only [Am];and_intros;all_goals (as_aux_lemma=>kernel_rfl)
theorem Rk:Tryz.prog.funcNamed "customhouse/customhouselaw40.ChainKeeps"=some 3:=kR
end
end Go.Proofs.YthapckjpmkkkpaaGreatDoor
