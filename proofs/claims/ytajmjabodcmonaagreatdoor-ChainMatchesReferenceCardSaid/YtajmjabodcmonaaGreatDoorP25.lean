/- Part 26. -/
import Derived.Test.YtajmjabodcmonaaGreatDoorP00
import Derived.Test.YtajmjabodcmonaaGreatDoorRows
import Derived.ProofKit
set_option linter.all false
set_option maxHeartbeats 40000000
set_option maxRecDepth 100000
namespace Go.Proofs.YtajmjabodcmonaaGreatDoor
open Y
theorem Get:joinedFacts Tryz.prog 3 Tryz.f3 Rows.chainMatchesReferenceSpec Rows.chainMatchesReferenceRow=true:=by unfold joinedFacts;simp only [Ba];and_intros;all_goals (as_aux_lemma=>kernel_rfl)
theorem Uy:Tryz.prog.funcNamed "customhouse/customhouselaw40.ChainMatchesReference"=some 3:=kR
end Go.Proofs.YtajmjabodcmonaaGreatDoor