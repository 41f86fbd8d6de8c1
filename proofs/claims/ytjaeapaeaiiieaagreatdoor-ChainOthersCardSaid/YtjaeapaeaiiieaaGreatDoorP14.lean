/-
  ChainOthers: the proof, part 15 of 16.
-/
import Derived.Test.YtjaeapaeaiiieaaGreatDoorP13
import Derived.Test.YtjaeapaeaiiieaaGreatDoorRows
import Derived.JoinedOf
import Derived.ProofKit
set_option linter.unusedSimpArgs false
set_option linter.unusedVariables false
set_option maxHeartbeats 40000000
set_option maxRecDepth 100000
namespace Go.Proofs.YtjaeapaeaiiieaaGreatDoor
section
theorem others_facts:joinedFacts Tryz.prog 3 Tryz.f3 Rows.chainOthersSpec Rows.chainOthersRow=true:=by
 unfold joinedFacts
 simp only [Bool.and_eq_true]
 and_intros
 all_goals (as_aux_lemma=>kernel_rfl)
theorem Kd:Tryz.prog.funcNamed "customhouse/customhouselaw40.ChainOthers"=some 3:=by kernel_rfl
end
end Go.Proofs.YtjaeapaeaiiieaaGreatDoor
