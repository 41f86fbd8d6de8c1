/- EvV: the globals. -/
import Derived.Test.YtnfcjgfaecihbaaGreatDoorEvS
set_option linter.unusedVariables false
set_option linter.unusedSimpArgs false
set_option linter.unusedSectionVars false
set_option linter.constructorNameAsVariable false
namespace Go.Ev
open Go
def Globs (g0 h : Heap) : Prop := ∀ b, b < gBase → h.get b = g0.get b
theorem globs_keep (g0 : Heap) : ∀ h h' : Heap, (∀ b, b < gBase → h'.get b = h.get b) → Globs g0 h → Globs g0 h' := fun _ _ k g b hb => (k b hb).trans (g b hb)
end Go.Ev
