/-
  DERIVED. GIVEN WITH THE SEED: THE CARDS: each row of YtajmjabodcmonaaGreatDoorRows.lean that lists a variable, with what it lists TIED to the program's text (the seventh form; the later family's looks); each row that meets fmt, with fmt's text TOLD by the authors' own Lean function (tested against real Go, not proved from fmt's source: count such statements apart). THE CARD IS WHAT COUNTS. Prove the row's statement (the work); the ties are given (YtajmjabodcmonaaGreatDoorTie.lean); close each card by the builder's one call (the guide's Derived/Test/ToyasCard.lean, 'card_holds'). Laid BY PROGRAM, IN A SANDBOX (cutbox-door.mjs). By AI agents, Wed Nov 11 2026. No macro, syntax, notation, axiom, sorry.
-/
import Derived.Test.YtajmjabodcmonaaGreatDoorRows
import GoSem.ClaimSeven
namespace Go.Proofs.YtajmjabodcmonaaGreatDoor
namespace Rows

/-- THE TIED CARD OF 'customhouselaw40.ChainMatchesReference'. -/
def chainMatchesReferenceCard : Claim7 := { stood := { row := chainMatchesReferenceRow, standIns := [], harness := (true, "9abc7dc04bb24b1b98b305b5ad9b54fc419365aa6c535ae03005b3da1f1a9b4e"), looks := true }, kinds := [], alts := [], laidByText := true, laidKinds := [.data, .data, .data, .data, .sentinel, .sentinel, .pinned, .pinned], laidTests := true, laidLooks := .later }
def ChainMatchesReferenceCardSaid : Prop := Claim7.holds Tryz.pinned (.plain (OpenSpec.ofChange chainMatchesReferenceSpec)) chainMatchesReferenceCard

/-- THE SECOND FORM's CARD OF 'customhouselaw40.ChainMatchesReference'. -/
def chainMatchesReferenceUptoCard : Claim7 := { stood := { row := chainMatchesReferenceUptoRow, standIns := [], harness := (true, "9abc7dc04bb24b1b98b305b5ad9b54fc419365aa6c535ae03005b3da1f1a9b4e"), looks := true }, kinds := [], alts := [], laidByText := true, laidKinds := [.data, .data, .data, .data, .sentinel, .sentinel, .pinned, .pinned], laidTests := true, laidLooks := .later }
def ChainMatchesReferenceUptoCardSaid : Prop := Claim7.holds Tryz.pinned (.plain (OpenSpec.upto chainMatchesReferenceSpec)) chainMatchesReferenceUptoCard
end Rows
end Go.Proofs.YtajmjabodcmonaaGreatDoor
