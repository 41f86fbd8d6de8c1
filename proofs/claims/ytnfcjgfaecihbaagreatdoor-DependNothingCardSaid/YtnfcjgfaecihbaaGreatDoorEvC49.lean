/- EvC49: closed calls of the law DependNothing besides the head (function numbers of its seat). -/
import Derived.Test.YtnfcjgfaecihbaaGreatDoorEvH49
set_option linter.unusedVariables false
set_option linter.unusedSimpArgs false
set_option linter.unusedSectionVars false
set_option linter.constructorNameAsVariable false
namespace Go.Ev
open Go
set_option maxRecDepth 1000000
theorem hfew : Entry PG G0 12 [] [Ag [N0, N0, N0, I 0, I 0, I 0, I 0, N0, N0, N0, N0, N0, .string ⟨⟨[]⟩⟩, N0, I 0, I 0, I 0]] tT :=
  Entry.of (n := gBase) (m := 100000) (e := ⟨[], [Ag [N0, N0, N0, I 0, I 0, I 0, I 0, N0, N0, N0, N0, N0, .string ⟨⟨[]⟩⟩, N0, I 0, I 0, I 0]], tT⟩) orcT_e (by kernel_rfl) (by kernel_rfl)
theorem hsame : Entry PG G0 7 [] [Ag [.string ⟨⟨[]⟩⟩, I 0, I 0, N0, N0, I 0, N0, N0, N0], Ag [.string ⟨⟨[]⟩⟩, I 0, I 0, N0, N0, I 0, N0, N0, N0]] tT :=
  Entry.of (n := gBase) (m := 100000) (e := ⟨[], [Ag [.string ⟨⟨[]⟩⟩, I 0, I 0, N0, N0, I 0, N0, N0, N0], Ag [.string ⟨⟨[]⟩⟩, I 0, I 0, N0, N0, I 0, N0, N0, N0]], tT⟩) orcT_e (by kernel_rfl) (by kernel_rfl)
end Go.Ev
