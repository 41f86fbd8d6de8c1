/- The walks of DependNothing, part 2 of 3: nothing of its own. -/
import Derived.Test.YtnfcjgfaecihbaaGreatDoorP00
set_option linter.unusedSimpArgs false
set_option linter.unusedVariables false
set_option maxHeartbeats 40000000
set_option maxRecDepth 100000
namespace Go.Proofs.YtnfcjgfaecihbaaGreatDoor
section
end
end Go.Proofs.YtnfcjgfaecihbaaGreatDoor
