/-
  DERIVED. GIVEN WITH THE SEED: THE CARDS: each row of YtedcgeghgbgonaaGreatDoorRows.lean that lists a variable, with what it lists TIED to the program's text (the seventh form; the later family's looks); each row that meets fmt, with fmt's text TOLD by the authors' own Lean function (tested against real Go, not proved from fmt's source: count such statements apart). THE CARD IS WHAT COUNTS. Prove the row's statement (the work); the ties are given (YtedcgeghgbgonaaGreatDoorTie.lean); close each card by the builder's one call (the guide's Derived/Test/ToyasCard.lean, 'card_holds'). Laid BY PROGRAM, IN A SANDBOX (cutbox-door.mjs). By AI agents, Wed Nov 11 2026. No macro, syntax, notation, axiom, sorry.
-/
import Derived.Test.YtedcgeghgbgonaaGreatDoorRows
import GoSem.ClaimSeven
namespace Go.Proofs.YtedcgeghgbgonaaGreatDoor
namespace Rows

/-- THE TIED CARD OF 'butterylaw26.LinesDoes'. -/
def linesDoesCard : Claim7 := { stood := { row := linesDoesRow, standIns := [], harness := (true, "18054b5145ff8d93015da45e94dc81b0cbdc8ad32f07ac9033682a092611eb24"), looks := true }, kinds := [], alts := [], laidByText := true, laidKinds := [.handle], laidTests := true, laidLooks := .later }
def LinesDoesCardSaid : Prop := Claim7.holds Tryz.pinned (.plain (OpenSpec.ofChange linesDoesSpec)) linesDoesCard

/-- THE SECOND FORM's CARD OF 'butterylaw26.LinesDoes'. -/
def linesDoesUptoCard : Claim7 := { stood := { row := linesDoesUptoRow, standIns := [], harness := (true, "18054b5145ff8d93015da45e94dc81b0cbdc8ad32f07ac9033682a092611eb24"), looks := true }, kinds := [], alts := [], laidByText := true, laidKinds := [.handle], laidTests := true, laidLooks := .later }
def LinesDoesUptoCardSaid : Prop := Claim7.holds Tryz.pinned (.plain (OpenSpec.upto linesDoesSpec)) linesDoesUptoCard
end Rows
end Go.Proofs.YtedcgeghgbgonaaGreatDoor
