/-
  DERIVED. GIVEN WITH THE SEED: THE CARDS: each row of YtjepldaciejieaaGreatDoorRows.lean that lists a variable, with what it lists TIED to the program's text (the seventh form; the later family's looks); each row that meets fmt, with fmt's text TOLD by the authors' own Lean function (tested against real Go, not proved from fmt's source: count such statements apart). THE CARD IS WHAT COUNTS. Prove the row's statement (the work); the ties are given (YtjepldaciejieaaGreatDoorTie.lean); close each card by the builder's one call (the guide's Derived/Test/ToyasCard.lean, 'card_holds'). Laid BY PROGRAM, IN A SANDBOX (cutbox-door.mjs). By AI agents, Wed Nov 11 2026. No macro, syntax, notation, axiom, sorry.
-/
import Derived.Test.YtjepldaciejieaaGreatDoorRows
import GoSem.ClaimSeven
namespace Go.Proofs.YtjepldaciejieaaGreatDoor
namespace Rows

/-- THE TIED CARD OF 'customhouselaw40.ChainSeals'. -/
def chainSealsCard : Claim7 := { stood := { row := chainSealsRow, standIns := [], harness := (true, "d6e93eea1dc36284ea73cab741a515b79f8c014ae71e868670fd914c1f4ff70c"), looks := true }, kinds := [], alts := [], laidByText := true, laidKinds := [.data, .data, .data, .data, .sentinel, .sentinel, .pinned, .pinned], laidTests := true, laidLooks := .later }
def ChainSealsCardSaid : Prop := Claim7.holds Tryz.pinned (.plain (OpenSpec.ofChange chainSealsSpec)) chainSealsCard

/-- THE SECOND FORM's CARD OF 'customhouselaw40.ChainSeals'. -/
def chainSealsUptoCard : Claim7 := { stood := { row := chainSealsUptoRow, standIns := [], harness := (true, "d6e93eea1dc36284ea73cab741a515b79f8c014ae71e868670fd914c1f4ff70c"), looks := true }, kinds := [], alts := [], laidByText := true, laidKinds := [.data, .data, .data, .data, .sentinel, .sentinel, .pinned, .pinned], laidTests := true, laidLooks := .later }
def ChainSealsUptoCardSaid : Prop := Claim7.holds Tryz.pinned (.plain (OpenSpec.upto chainSealsSpec)) chainSealsUptoCard
end Rows
end Go.Proofs.YtjepldaciejieaaGreatDoor
