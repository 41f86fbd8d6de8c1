/-
  DERIVED. GIVEN WITH THE SEED: THE CARDS: each row of YtkboocifdaebgaaGreatDoorRows.lean that lists a variable, with what it lists TIED to the program's text (the seventh form; the later family's looks); each row that meets fmt, with fmt's text TOLD by the authors' own Lean function (tested against real Go, not proved from fmt's source: count such statements apart). THE CARD IS WHAT COUNTS. Prove the row's statement (the work); the ties are given (YtkboocifdaebgaaGreatDoorTie.lean); close each card by the builder's one call (the guide's Derived/Test/ToyasCard.lean, 'card_holds'). Laid BY PROGRAM, IN A SANDBOX (cutbox-door.mjs). By AI agents, Wed Nov 11 2026. No macro, syntax, notation, axiom, sorry.
-/
import Derived.Test.YtkboocifdaebgaaGreatDoorRows
import GoSem.ClaimSeven
namespace Go.Proofs.YtkboocifdaebgaaGreatDoor
namespace Rows

/-- THE TIED CARD OF 'customhouselaw40.ChainTexts'. -/
def chainTextsCard : Claim7 := { stood := { row := chainTextsRow, standIns := [], harness := (true, "3858e59de367fcf30f18794c6ffcf7a2d1eabf0c452185d6a9cd2dfe4de78ead"), looks := true }, kinds := [], alts := [], laidByText := true, laidKinds := [.data, .data, .data, .data, .sentinel, .sentinel, .listed, .data, .pinned, .pinned], laidTests := true, laidLooks := .later }
def ChainTextsCardSaid : Prop := Claim7.holds Tryz.pinned (.plain (OpenSpec.ofChange chainTextsSpec)) chainTextsCard

/-- THE SECOND FORM's CARD OF 'customhouselaw40.ChainTexts'. -/
def chainTextsUptoCard : Claim7 := { stood := { row := chainTextsUptoRow, standIns := [], harness := (true, "3858e59de367fcf30f18794c6ffcf7a2d1eabf0c452185d6a9cd2dfe4de78ead"), looks := true }, kinds := [], alts := [], laidByText := true, laidKinds := [.data, .data, .data, .data, .sentinel, .sentinel, .listed, .data, .pinned, .pinned], laidTests := true, laidLooks := .later }
def ChainTextsUptoCardSaid : Prop := Claim7.holds Tryz.pinned (.plain (OpenSpec.upto chainTextsSpec)) chainTextsUptoCard
end Rows
end Go.Proofs.YtkboocifdaebgaaGreatDoor
