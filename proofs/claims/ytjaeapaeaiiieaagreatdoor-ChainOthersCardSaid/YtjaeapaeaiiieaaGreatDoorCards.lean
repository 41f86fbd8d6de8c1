/-
  DERIVED. GIVEN WITH THE SEED: THE CARDS: each row of YtjaeapaeaiiieaaGreatDoorRows.lean that lists a variable, with what it lists TIED to the program's text (the seventh form; the later family's looks); each row that meets fmt, with fmt's text TOLD by the authors' own Lean function (tested against real Go, not proved from fmt's source: count such statements apart). THE CARD IS WHAT COUNTS. Prove the row's statement (the work); the ties are given (YtjaeapaeaiiieaaGreatDoorTie.lean); close each card by the builder's one call (the guide's Derived/Test/ToyasCard.lean, 'card_holds'). Laid BY PROGRAM, IN A SANDBOX (cutbox-door.mjs). By AI agents, Wed Nov 11 2026. No macro, syntax, notation, axiom, sorry.
-/
import Derived.Test.YtjaeapaeaiiieaaGreatDoorRows
import GoSem.ClaimSeven
namespace Go.Proofs.YtjaeapaeaiiieaaGreatDoor
namespace Rows

/-- THE TIED CARD OF 'customhouselaw40.ChainOthers'. -/
def chainOthersCard : Claim7 := { stood := { row := chainOthersRow, standIns := [], harness := (true, "dd3df39025859ce6d52d16f7552158a62bf2623c923609531c028d0fe7418d70"), looks := true }, kinds := [], alts := [], laidByText := true, laidKinds := [.data, .data, .data, .data, .sentinel, .sentinel, .pinned, .pinned], laidTests := true, laidLooks := .later }
def ChainOthersCardSaid : Prop := Claim7.holds Tryz.pinned (.plain (OpenSpec.ofChange chainOthersSpec)) chainOthersCard

/-- THE SECOND FORM's CARD OF 'customhouselaw40.ChainOthers'. -/
def chainOthersUptoCard : Claim7 := { stood := { row := chainOthersUptoRow, standIns := [], harness := (true, "dd3df39025859ce6d52d16f7552158a62bf2623c923609531c028d0fe7418d70"), looks := true }, kinds := [], alts := [], laidByText := true, laidKinds := [.data, .data, .data, .data, .sentinel, .sentinel, .pinned, .pinned], laidTests := true, laidLooks := .later }
def ChainOthersUptoCardSaid : Prop := Claim7.holds Tryz.pinned (.plain (OpenSpec.upto chainOthersSpec)) chainOthersUptoCard
end Rows
end Go.Proofs.YtjaeapaeaiiieaaGreatDoor
