/-
  DERIVED. GIVEN WITH THE SEED: THE CARDS: each row of YtdgmgjeoikcgbaaGreatDoorRows.lean that lists a variable, with what it lists TIED to the program's text (the seventh form; the later family's looks); each row that meets fmt, with fmt's text TOLD by the authors' own Lean function (tested against real Go, not proved from fmt's source: count such statements apart). THE CARD IS WHAT COUNTS. Prove the row's statement (the work); the ties are given (YtdgmgjeoikcgbaaGreatDoorTie.lean); close each card by the builder's one call (the guide's Derived/Test/ToyasCard.lean, 'card_holds'). Laid BY PROGRAM, IN A SANDBOX (cutbox-door.mjs). By AI agents, Wed Nov 11 2026. No macro, syntax, notation, axiom, sorry.
-/
import Derived.Test.YtdgmgjeoikcgbaaGreatDoorRows
import GoSem.ClaimSeven
namespace Go.Proofs.YtdgmgjeoikcgbaaGreatDoor
namespace Rows

/-- THE TIED CARD OF 'customhouselaw40.ChainMakesAsReference'. -/
def chainMakesAsReferenceCard : Claim7 := { stood := { row := chainMakesAsReferenceRow, standIns := [], harness := (true, "ad2e144bbf5cfd22c7851715c2ef3fb2f6e1e88b4b3d99f02aa48515b9e2f831"), looks := true }, kinds := [], alts := [], laidByText := true, laidKinds := [.data, .data, .data, .data, .sentinel, .sentinel, .pinned, .pinned], laidTests := true, laidLooks := .later }
def ChainMakesAsReferenceCardSaid : Prop := Claim7.holds Tryz.pinned (.plain (OpenSpec.ofChange chainMakesAsReferenceSpec)) chainMakesAsReferenceCard

/-- THE SECOND FORM's CARD OF 'customhouselaw40.ChainMakesAsReference'. -/
def chainMakesAsReferenceUptoCard : Claim7 := { stood := { row := chainMakesAsReferenceUptoRow, standIns := [], harness := (true, "ad2e144bbf5cfd22c7851715c2ef3fb2f6e1e88b4b3d99f02aa48515b9e2f831"), looks := true }, kinds := [], alts := [], laidByText := true, laidKinds := [.data, .data, .data, .data, .sentinel, .sentinel, .pinned, .pinned], laidTests := true, laidLooks := .later }
def ChainMakesAsReferenceUptoCardSaid : Prop := Claim7.holds Tryz.pinned (.plain (OpenSpec.upto chainMakesAsReferenceSpec)) chainMakesAsReferenceUptoCard
end Rows
end Go.Proofs.YtdgmgjeoikcgbaaGreatDoor
