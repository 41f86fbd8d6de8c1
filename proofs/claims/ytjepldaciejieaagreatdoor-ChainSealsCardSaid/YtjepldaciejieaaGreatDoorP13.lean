/-
  ChainSeals: the proof, part 14 of 15.
-/
import Derived.Test.YtjepldaciejieaaGreatDoorP12
import Derived.Test.YtjepldaciejieaaGreatDoorRows
import Derived.JoinedOf
import Derived.ProofKit
set_option linter.unusedSimpArgs false
set_option linter.unusedVariables false
set_option maxHeartbeats 40000000
set_option maxRecDepth 100000
namespace Go.Proofs.YtjepldaciejieaaGreatDoor
section
theorem seals_facts:joinedFacts Tryz.prog 3 Tryz.f3 Rows.chainSealsSpec Rows.chainSealsRow=true:=by
 unfold joinedFacts
 simp only [Bool.and_eq_true]
 and_intros
 all_goals (as_aux_lemma=>kernel_rfl)
theorem seals_named:Tryz.prog.funcNamed "customhouse/customhouselaw40.ChainSeals"=some 3:=by kernel_rfl
end
end Go.Proofs.YtjepldaciejieaaGreatDoor
