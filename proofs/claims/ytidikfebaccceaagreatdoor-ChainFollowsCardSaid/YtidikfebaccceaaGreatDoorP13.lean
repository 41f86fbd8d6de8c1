/-
  ChainFollows: the proof, part 14 of 15.
-/
import Derived.Test.YtidikfebaccceaaGreatDoorP12
import Derived.Test.YtidikfebaccceaaGreatDoorRows
import Derived.JoinedOf
import Derived.ProofKit
set_option linter.unusedSimpArgs false
set_option linter.unusedVariables false
set_option maxHeartbeats 40000000
namespace Go.Proofs.YtidikfebaccceaaGreatDoor
set_option maxRecDepth 100000 in
theorem follows_facts:joinedFacts Tryz.prog 3 Tryz.f3 Rows.chainFollowsSpec Rows.chainFollowsRow=true:=by
 unfold joinedFacts
 simp only [Bool.and_eq_true]
 and_intros
 all_goals (as_aux_lemma=>kernel_rfl)
theorem follows_named:Tryz.prog.funcNamed "customhouse/customhouselaw40.ChainFollows"=some 3:=by kernel_rfl
end Go.Proofs.YtidikfebaccceaaGreatDoor
