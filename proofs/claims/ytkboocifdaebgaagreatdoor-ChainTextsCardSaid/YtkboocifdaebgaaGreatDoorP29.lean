/- ChainTexts, part 30 of 31. -/
import Derived.Test.YtkboocifdaebgaaGreatDoorP00
import Derived.Test.YtkboocifdaebgaaGreatDoorRows
import Derived.ProofKit
set_option linter.all false
set_option maxHeartbeats 40000000
set_option maxRecDepth 100000
namespace Go.Proofs.YtkboocifdaebgaaGreatDoor
open Y
section
theorem Fpt:joinedFacts Tryz.prog 3 Tryz.f3 Rows.chainTextsSpec Rows.chainTextsRow=true:=by unfold joinedFacts;simp only [Aq];and_intros;all_goals (as_aux_lemma=>kernel_rfl)
theorem Xp:Tryz.prog.funcNamed "customhouse/customhouselaw40.ChainTexts"=some 3:=kR
end
end Go.Proofs.YtkboocifdaebgaaGreatDoor
