/-
  ChainOrder: the proof, part 27 of 28.
-/
import Derived.Test.YtpkjhpenpfcpfaaGreatDoorP00
import Derived.Test.YtpkjhpenpfcpfaaGreatDoorRows
import Derived.ProofKit
set_option linter.unusedSimpArgs false
set_option linter.unusedVariables false
set_option maxHeartbeats 40000000
set_option maxRecDepth 100000
namespace Go.Proofs.YtpkjhpenpfcpfaaGreatDoor
section
theorem Den:joinedFacts Tryz.prog 3 Tryz.f3 Rows.chainOrderSpec Rows.chainOrderRow=true:=by unfold joinedFacts;simp only [Ar];and_intros;all_goals (as_aux_lemma=>kernel_rfl)
theorem Ui:Tryz.prog.funcNamed "customhouse/customhouselaw40.ChainOrder"=some 3:=kR
end
end Go.Proofs.YtpkjhpenpfcpfaaGreatDoor
