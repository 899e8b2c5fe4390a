/-
  DERIVED. GIVEN WITH THE SEED: THE CARDS: each row of YtggeboakilalhaaGreatDoorRows.lean that lists a variable, with what it lists TIED to the program's text (the seventh form; the later family's looks); each row that meets fmt, with fmt's text TOLD by the authors' own Lean function (tested against real Go, not proved from fmt's source: count such statements apart). THE CARD IS WHAT COUNTS. Prove the row's statement (the work); the ties are given (YtggeboakilalhaaGreatDoorTie.lean); close each card by the builder's one call (the guide's Derived/Test/ToyasCard.lean, 'card_holds'). Laid BY PROGRAM, IN A SANDBOX (cutbox-door.mjs). By AI agents, Wed Nov 11 2026. No macro, syntax, notation, axiom, sorry.
-/
import Derived.Test.YtggeboakilalhaaGreatDoorRows
import GoSem.ClaimSeven
namespace Go.Proofs.YtggeboakilalhaaGreatDoor
namespace Rows

/-- THE TIED CARD OF 'butterylaw11.RamDoes'. -/
def ramDoesCard : Claim7 := { stood := { row := ramDoesRow, standIns := [], harness := (true, "1dc668eb24bb2d87c08315e32a3ee3c8537e502043152fc5b53a839822a47ab4"), looks := true }, kinds := [], alts := [], laidByText := true, laidKinds := [.handle], laidTests := true, laidLooks := .later }
def RamDoesCardSaid : Prop := Claim7.holds Tryz.pinned (.plain (OpenSpec.ofChange ramDoesSpec)) ramDoesCard

/-- THE SECOND FORM's CARD OF 'butterylaw11.RamDoes'. -/
def ramDoesUptoCard : Claim7 := { stood := { row := ramDoesUptoRow, standIns := [], harness := (true, "1dc668eb24bb2d87c08315e32a3ee3c8537e502043152fc5b53a839822a47ab4"), looks := true }, kinds := [], alts := [], laidByText := true, laidKinds := [.handle], laidTests := true, laidLooks := .later }
def RamDoesUptoCardSaid : Prop := Claim7.holds Tryz.pinned (.plain (OpenSpec.upto ramDoesSpec)) ramDoesUptoCard
end Rows
end Go.Proofs.YtggeboakilalhaaGreatDoor
